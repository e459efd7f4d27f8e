import Derived.Test.YtelnmegngpocjaaGreatDoorTA
import Derived.Shelf.Small.Bits
import Derived.Shelf.Utf8.RuneCount
import Derived.Shelf.Strconv.Itoa0
import Derived.Shelf.Strings.Search1
import Derived.Shelf.Strings.Search2
import Derived.Shelf.Strings.Search3
import Derived.Shelf.Strings.Count
import Derived.Shelf.LaysM
import Derived.Shelf.Strings.Shaped
import Derived.Shelf.Sort.Plain
import Derived.Shelf.Strings.Split
import Derived.Shelf.Strings.SplitShaped
import Derived.Shelf.Unicode.Decode
import Derived.Shelf.Strings.RuneCount
import Derived.Shelf.Strings.Explode
import Derived.Shelf.Unicode.DecodeSlow
import Derived.Shelf.Unicode.DecodeAny
import Derived.Ground.Names2Prog
import Derived.Shelf.Slices.SearchI
import Derived.Shelf.Slices.In.SortNone
import Derived.Shelf.Slices.In.SortNone2
import Derived.Test.YtelnmegngpocjaaGreatDoorProg
set_option linter.unusedVariables false
set_option linter.unusedSimpArgs false
set_option linter.unusedVariables false
set_option linter.unusedSimpArgs false
set_option maxHeartbeats 1000000
namespace Go.Proofs.T
open Go.OM
theorem res63 : Tryz.f63.results.toList = [.tmp 4] := rfl
theorem ent63 : Enters E.P 63 := eO Tryz.func63 (by simp [Tryz.f63]) rfl
theorem spec_l04Deeps_ok (nodes1 : List GNode) (k2 : Int) {r0 : List Int} (h : spec_l04Deeps nodes1 k2 = some r0) : Ok E 63 [.val (.sl false 4 (List.map (GNode.enc false) nodes1)), .val (vi k2)] [.sl true 1 (List.map vi r0)] [] := by
 refine oB (fn := Tryz.f63) Tryz.func63 rfl (by simp [Tryz.f63]) fun C hN hP => ?_
 have u : ∀ l, pinK [] l = true → pinB C.pin l = true := pO (by rw [hP]; rfl)
 have y : C.N = 84 := hN
 clear hN
 unfold spec_l04Deeps at h
 refine SWp.sR rfl (u _ rfl) fun K q => ?_
 refine wC rfl fun K q => ?_; simp [y]; refine q _ ?_; clear q
 refine wN (q _ ?_); clear q
 refine SWp.sR rfl (u _ rfl) fun K q => ?_
 iterate 2 (refine wC rfl fun K q => ?_; simp [y]; refine q _ ?_; clear q)
 refine wN (q _ ?_); clear q
 obtain ⟨out72, hj3, h⟩ := bS h
 refine SWp.seqC [5] [] (fun _ : Unit => ⟨[(5, .t (.sl true 1 (List.map vi out72)))], []⟩) (fun _ => True) (fun _ _ => ?_) fun K4 hK4 => ?_
 rotate_left
 ·refine SWp.sR rfl (u _ rfl) fun K q => ?_
  refine wC rfl fun K q => ?_; simp [y]; refine q _ ?_; clear q
  refine wN (q _ ?_); clear q
  refine SWp.block ?_
  refine SWp.loopO [] [0, 1, 5, 6] [] (fun v : (List Int) × Int => ⟨[(0, .t (.sl false 4 (List.map (GNode.enc false) nodes1))), (1, .t (vi k2)), (5, .t (.sl true 1 (List.map vi v.1))), (6, .t (vi v.2))], []⟩) (spec_l04Deeps_l1 nodes1 k2) _ ([], 0) hj3 (by simp [y]) ?_
  intro g s10 h8 ho9
  obtain ⟨out6, i7⟩ := g
  simp only [spec_l04Deeps_l1] at h8
  try dsimp only
  refine SWp.seq ?_
  obtain ⟨v15, hj11, h8⟩ := bS h8
  refine SWp.seqRC rfl (u _ rfl) [0, 1, 5, 6, 18] [] (fun _ : Unit => ⟨[(0, .t (.sl false 4 (List.map (GNode.enc false) nodes1))), (1, .t (vi k2)), (5, .t (.sl true 1 (List.map vi out6))), (6, .t (vi i7)), (18, .t (vb v15))], []⟩) (fun _ => True) (fun _ _ => ?_) fun K12 hK12 => ?_
  rotate_left
  ·refine wC rfl fun K q => ?_; simp [y]; refine q _ ?_; clear q
   iterate 3 (refine wC rfl fun K q => ?_; simp [y]; refine q _ ?_; clear q)
   rcases ite_or hj11 with ⟨hb13, hj11⟩ | ⟨hb14, hj11⟩
   ·have hb13s := hb13
    try simp at hb13s
    iterate 5 (refine wC rfl fun K q => ?_; simp [y, hb13, hb13s]; refine q _ ?_; clear q)
    refine wN ?_
    cases hj11
    exact hK12 _ () [] trivial (by simp [y, hb13, hb13s])
   ·have hb14s := hb14
    try simp at hb14s
    iterate 4 (refine wO fun K q => ?_; simp [y, hb14, hb14s]; refine q _ ?_; clear q)
    refine wC rfl fun K q => ?_; simp [y, hb14, hb14s]; refine q _ ?_; clear q
    refine wN ?_
    cases hj11
    exact hK12 _ () [] trivial (by simp [y, hb14, hb14s])
  rcases ite_or h8 with ⟨hb16, h8⟩ | ⟨hb17, h8⟩
  ·refine SWp.cT' (b := v15) (by simp) hb16 ?_
   refine SWp.skip ?_
   show SWp E C _ _ _
   obtain ⟨out70, hj18, h8⟩ := bS h8
   refine SWp.seqC [0, 1, 5, 6] [] (fun _ : Unit => ⟨[(0, .t (.sl false 4 (List.map (GNode.enc false) nodes1))), (1, .t (vi k2)), (5, .t (.sl true 1 (List.map vi out70))), (6, .t (vi i7))], []⟩) (fun _ => True) (fun _ _ => ?_) fun K19 hK19 => ?_
   rotate_left
   ·refine SWp.block ?_
    refine SWp.sR rfl (u _ rfl) fun K q => ?_
    refine wC rfl fun K q => ?_; simp [y]; refine q _ ?_; clear q
    refine wN (q _ ?_); clear q
    obtain ⟨deep36, hj21, hj18⟩ := bS hj18
    refine SWp.seqC [0, 1, 5, 6, 7] [] (fun _ : Unit => ⟨[(0, .t (.sl false 4 (List.map (GNode.enc false) nodes1))), (1, .t (vi k2)), (5, .t (.sl true 1 (List.map vi out6))), (6, .t (vi i7)), (7, .t (vi deep36))], []⟩) (fun _ => True) (fun _ _ => ?_) fun K22 hK22 => ?_
    rotate_left
    ·obtain ⟨v33, hj24, hj21⟩ := bS hj21
     refine SWp.seqRC rfl (u _ rfl) [0, 1, 5, 6, 7, 36] [] (fun _ : Unit => ⟨[(0, .t (.sl false 4 (List.map (GNode.enc false) nodes1))), (1, .t (vi k2)), (5, .t (.sl true 1 (List.map vi out6))), (6, .t (vi i7)), (7, .t (vi 1)), (36, .t (vb v33))], []⟩) (fun _ => True) (fun _ _ => ?_) fun K25 hK25 => ?_
     rotate_left
     ·refine wC rfl fun K q => ?_; simp [y]; refine q _ ?_; clear q
      refine wC rfl fun K q => ?_; simp [y]; refine q _ ?_; clear q
      obtain ⟨r26, hc27, hj24⟩ := bS hj24
      refine wL [(.take, .tmp 21), (.take, .tmp 22)] rfl rfl ent90 (spec_NodeOk_ok _ _ hc27) fun K q => ?_; simp [y]; refine q _ ?_; clear q
      iterate 2 (refine wC rfl fun K q => ?_; simp [y]; refine q _ ?_; clear q)
      rcases ite_or hj24 with ⟨hb28, hj24⟩ | ⟨hb29, hj24⟩
      ·have hb28s := hb28
       try simp at hb28s
       iterate 10 (refine wO fun K q => ?_; simp [y, hb28, hb28s]; refine q _ ?_; clear q)
       refine wC rfl fun K q => ?_; simp [y, hb28, hb28s]; refine q _ ?_; clear q
       refine wN ?_
       cases hj24
       exact hK25 _ () [] trivial (by simp [y, hb28, hb28s])
      ·have hb29s := hb29
       try simp at hb29s
       iterate 3 (refine wC rfl fun K q => ?_; simp [y, hb29, hb29s]; refine q _ ?_; clear q)
       rcases ite_or hj24 with ⟨hb30, hj24⟩ | ⟨hb31, hj24⟩
       ·have hb30s := hb30
        try simp at hb30s
        iterate 3 (refine wC rfl fun K q => ?_; simp [y, hb29, hb29s, hb30, hb30s]; refine q _ ?_; clear q)
        obtain ⟨e32, he32, hj24⟩ := bS hj24
        obtain ⟨he32a, he32b, he32c, he32d⟩ := gS he32
        have he32j := he32b; try simp at he32j
        try simp only [Int.toNat_natCast] at he32c he32d
        iterate 5 (refine wC rfl fun K q => ?_; simp [y, hb29, hb29s, hb30, hb30s, he32a, he32b, he32c, he32d, he32j]; refine q _ ?_; clear q)
        refine wN ?_
        cases hj24
        exact hK25 _ () [] trivial (by simp [y, hb29, hb29s, hb30, hb30s, he32a, he32b, he32c, he32d, he32j])
       ·have hb31s := hb31
        try simp at hb31s
        iterate 6 (refine wO fun K q => ?_; simp [y, hb29, hb29s, hb31, hb31s]; refine q _ ?_; clear q)
        iterate 2 (refine wC rfl fun K q => ?_; simp [y, hb29, hb29s, hb31, hb31s]; refine q _ ?_; clear q)
        refine wN ?_
        cases hj24
        exact hK25 _ () [] trivial (by simp [y, hb29, hb29s, hb31, hb31s])
     rcases ite_or hj21 with ⟨hb34, hj21⟩ | ⟨hb35, hj21⟩
     ·refine SWp.cT' (b := v33) (by simp) hb34 ?_
      refine SWp.reg rfl (u _ rfl) fun K q => ?_
      refine wC rfl fun K q => ?_; simp [y]; refine q _ ?_; clear q
      refine wN (q _ ?_); clear q
      cases hj21
      exact hK22 _ () [] trivial (by simp [y])
     ·refine SWp.cF' (b := v33) (by simp) hb35 ?_
      refine SWp.skip ?_
      cases hj21
      exact hK22 _ () [] trivial (by simp [y])
    obtain ⟨deep62, hj37, hj18⟩ := bS hj18
    refine SWp.seqC [0, 1, 5, 6, 7] [] (fun _ : Unit => ⟨[(0, .t (.sl false 4 (List.map (GNode.enc false) nodes1))), (1, .t (vi k2)), (5, .t (.sl true 1 (List.map vi out6))), (6, .t (vi i7)), (7, .t (vi deep62))], []⟩) (fun _ => True) (fun _ _ => ?_) fun K38 hK38 => ?_
    rotate_left
    ·refine SWp.sR rfl (u _ rfl) fun K q => ?_
     refine wC rfl fun K q => ?_; simp [y]; refine q _ ?_; clear q
     refine wN (q _ ?_); clear q
     refine SWp.block ?_
     refine SWp.loopO [] [0, 1, 5, 6, 7, 8] [] (fun v : Int × Int => ⟨[(0, .t (.sl false 4 (List.map (GNode.enc false) nodes1))), (1, .t (vi k2)), (5, .t (.sl true 1 (List.map vi out6))), (6, .t (vi i7)), (7, .t (vi v.1)), (8, .t (vi v.2))], []⟩) (spec_l04Deeps_l2 nodes1 out6 i7) _ (deep36, 0) hj37 (by simp [y]) ?_
     intro g s44 h42 ho43
     obtain ⟨deep40, j41⟩ := g
     simp only [spec_l04Deeps_l2] at h42
     try dsimp only
     refine SWp.seq ?_
     obtain ⟨v50, hj45, h42⟩ := bS h42
     refine SWp.seqRC rfl (u _ rfl) [0, 1, 5, 6, 7, 8, 48] [] (fun _ : Unit => ⟨[(0, .t (.sl false 4 (List.map (GNode.enc false) nodes1))), (1, .t (vi k2)), (5, .t (.sl true 1 (List.map vi out6))), (6, .t (vi i7)), (7, .t (vi deep40)), (8, .t (vi j41)), (48, .t (vb v50))], []⟩) (fun _ => True) (fun _ _ => ?_) fun K46 hK46 => ?_
     rotate_left
     ·refine wC rfl fun K q => ?_; simp [y]; refine q _ ?_; clear q
      iterate 2 (refine wC rfl fun K q => ?_; simp [y]; refine q _ ?_; clear q)
      rcases ite_or hj45 with ⟨hb47, hj45⟩ | ⟨hb48, hj45⟩
      ·have hb47s := hb47
       try simp at hb47s
       iterate 3 (refine wC rfl fun K q => ?_; simp [y, hb47, hb47s]; refine q _ ?_; clear q)
       obtain ⟨e49, he49, hj45⟩ := bS hj45
       obtain ⟨he49a, he49b, he49c, he49d⟩ := gS he49
       iterate 6 (refine wC rfl fun K q => ?_; simp [y, hb47, hb47s, he49a, he49b, he49c, he49d]; refine q _ ?_; clear q)
       refine wN ?_
       cases hj45
       exact hK46 _ () [] trivial (by simp [y, hb47, hb47s, he49a, he49b, he49c, he49d])
      ·have hb48s := hb48
       try simp at hb48s
       iterate 8 (refine wO fun K q => ?_; simp [y, hb48, hb48s]; refine q _ ?_; clear q)
       refine wC rfl fun K q => ?_; simp [y, hb48, hb48s]; refine q _ ?_; clear q
       refine wN ?_
       cases hj45
       exact hK46 _ () [] trivial (by simp [y, hb48, hb48s])
     rcases ite_or h42 with ⟨hb51, h42⟩ | ⟨hb52, h42⟩
     ·refine SWp.cT' (b := v50) (by simp) hb51 ?_
      refine SWp.skip ?_
      show SWp E C _ _ _
      refine SWp.seq ?_
      refine SWp.block ?_
      refine SWp.sR rfl (u _ rfl) fun K q => ?_
      iterate 3 (refine wC rfl fun K q => ?_; simp [y]; refine q _ ?_; clear q)
      obtain ⟨e53, he53, h42⟩ := bS h42
      obtain ⟨he53a, he53b, he53c, he53d⟩ := gS he53
      iterate 4 (refine wC rfl fun K q => ?_; simp [y, he53a, he53b, he53c, he53d]; refine q _ ?_; clear q)
      obtain ⟨e54, he54, h42⟩ := bS h42
      obtain ⟨he54a, he54b, he54c, he54d⟩ := gS he54
      iterate 2 (refine wC rfl fun K q => ?_; simp [y, he53a, he53b, he53c, he53d, he54a, he54b, he54c, he54d]; refine q _ ?_; clear q)
      obtain ⟨e55, he55, h42⟩ := bS h42
      obtain ⟨he55a, he55b, he55c, he55d⟩ := gS he55
      iterate 5 (refine wC rfl fun K q => ?_; simp [y, he53a, he53b, he53c, he53d, he54a, he54b, he54c, he54d, he55a, he55b, he55c, he55d]; refine q _ ?_; clear q)
      refine wN (q _ ?_); clear q
      rcases ite_or h42 with ⟨hb56, h42⟩ | ⟨hb57, h42⟩
      ·refine SWp.cT' (b := decide (IntKind.wrap .i64 (e55 + 1) > deep40)) (by simp) hb56 ?_
       refine SWp.reg rfl (u _ rfl) fun K q => ?_
       iterate 3 (refine wC rfl fun K q => ?_; simp [y]; refine q _ ?_; clear q)
       obtain ⟨e58, he58, h42⟩ := bS h42
       obtain ⟨he58a, he58b, he58c, he58d⟩ := gS he58
       iterate 4 (refine wC rfl fun K q => ?_; simp [y, he58a, he58b, he58c, he58d]; refine q _ ?_; clear q)
       obtain ⟨e59, he59, h42⟩ := bS h42
       obtain ⟨he59a, he59b, he59c, he59d⟩ := gS he59
       iterate 2 (refine wC rfl fun K q => ?_; simp [y, he58a, he58b, he58c, he58d, he59a, he59b, he59c, he59d]; refine q _ ?_; clear q)
       obtain ⟨e60, he60, h42⟩ := bS h42
       obtain ⟨he60a, he60b, he60c, he60d⟩ := gS he60
       iterate 4 (refine wC rfl fun K q => ?_; simp [y, he58a, he58b, he58c, he58d, he59a, he59b, he59c, he59d, he60a, he60b, he60c, he60d]; refine q _ ?_; clear q)
       refine wN (q _ ?_); clear q
       show SWp E C _ _ _
       refine SWp.reg rfl (u _ rfl) fun K q => ?_
       iterate 3 (refine wC rfl fun K q => ?_; simp [y]; refine q _ ?_; clear q)
       refine wN (q _ ?_); clear q
       cases h42
       exact ⟨_, [], rfl, by simp [y]⟩
      ·refine SWp.cF' (b := decide (IntKind.wrap .i64 (e55 + 1) > deep40)) (by simp) hb57 ?_
       refine SWp.skip ?_
       show SWp E C _ _ _
       refine SWp.reg rfl (u _ rfl) fun K q => ?_
       iterate 3 (refine wC rfl fun K q => ?_; simp [y]; refine q _ ?_; clear q)
       refine wN (q _ ?_); clear q
       cases h42
       exact ⟨_, [], rfl, by simp [y]⟩
     ·refine SWp.cF' (b := v50) (by simp) hb52 ?_
      refine SWp.exit ?_
      have h61 := congrArg some (ho43 _ (Option.some.inj h42).symm)
      cases h61
      exact hK38 _ () [] trivial (by simp [y])
    obtain ⟨deep68, hj63, hj18⟩ := bS hj18
    refine SWp.seqC [0, 1, 5, 6, 7] [] (fun _ : Unit => ⟨[(0, .t (.sl false 4 (List.map (GNode.enc false) nodes1))), (1, .t (vi k2)), (5, .t (.sl true 1 (List.map vi out6))), (6, .t (vi i7)), (7, .t (vi deep68))], []⟩) (fun _ => True) (fun _ _ => ?_) fun K64 hK64 => ?_
    rotate_left
    ·refine SWp.sR rfl (u _ rfl) fun K q => ?_
     iterate 2 (refine wC rfl fun K q => ?_; simp [y]; refine q _ ?_; clear q)
     refine wN (q _ ?_); clear q
     rcases ite_or hj63 with ⟨hb66, hj63⟩ | ⟨hb67, hj63⟩
     ·refine SWp.cT' (b := decide (deep62 > 10)) (by simp) hb66 ?_
      refine SWp.reg rfl (u _ rfl) fun K q => ?_
      refine wC rfl fun K q => ?_; simp [y]; refine q _ ?_; clear q
      refine wN (q _ ?_); clear q
      cases hj63
      exact hK64 _ () [] trivial (by simp [y])
     ·refine SWp.cF' (b := decide (deep62 > 10)) (by simp) hb67 ?_
      refine SWp.skip ?_
      cases hj63
      exact hK64 _ () [] trivial (by simp [y])
    refine SWp.reg rfl (u _ rfl) fun K q => ?_
    iterate 3 (refine wC rfl fun K q => ?_; simp [y]; refine q _ ?_; clear q)
    obtain ⟨l69, hl69, hj18⟩ := bS hj18
    obtain ⟨hl69a, hl69b, hl69d⟩ := aS hl69
    have hl69f : List.map vi out6 ++ List.map vi [deep68] = List.map vi l69 := app_map (f := vi) hl69d
    simp [eSl] at hl69a hl69b hl69f
    iterate 2 (refine wC rfl fun K q => ?_; simp [y, hl69a, hl69b, hl69f]; refine q _ ?_; clear q)
    refine wN (q _ ?_); clear q
    cases hj18
    exact hK19 _ () [] trivial (by simp [y])
   refine SWp.reg rfl (u _ rfl) fun K q => ?_
   iterate 3 (refine wC rfl fun K q => ?_; simp [y]; refine q _ ?_; clear q)
   refine wN (q _ ?_); clear q
   cases h8
   exact ⟨_, [], rfl, by simp [y]⟩
  ·refine SWp.cF' (b := v15) (by simp) hb17 ?_
   refine SWp.exit ?_
   have h71 := congrArg some (ho9 _ (Option.some.inj h8).symm)
   cases h71
   exact hK4 _ () [] trivial (by simp [y])
 refine SWp.sR rfl (u _ rfl) fun K q => ?_
 iterate 2 (refine wC rfl fun K q => ?_; simp [y]; refine q _ ?_; clear q)
 refine wN (q _ ?_); clear q
 cases h
 refine SWp.ret ?_
 simp [thenS, iB, res63]
theorem res64 : Tryz.f64.results.toList = [.tmp 2] := rfl
theorem ent64 : Enters E.P 64 := eO Tryz.func64 (by simp [Tryz.f64]) rfl
theorem spec_l04Used_ok (nodes1 : List GNode) {r0 : List Int} (h : spec_l04Used nodes1 = some r0) : Ok E 64 [.val (.sl false 4 (List.map (GNode.enc false) nodes1))] [.sl true 1 (List.map vi r0)] [] := by
 refine oB (fn := Tryz.f64) Tryz.func64 rfl (by simp [Tryz.f64]) fun C hN hP => ?_
 have u : ∀ l, pinK [] l = true → pinB C.pin l = true := pO (by rw [hP]; rfl)
 have y : C.N = 39 := hN
 clear hN
 unfold spec_l04Used at h
 refine SWp.sR rfl (u _ rfl) fun K q => ?_
 refine wC rfl fun K q => ?_; simp [y]; refine q _ ?_; clear q
 refine wN (q _ ?_); clear q
 refine SWp.sR rfl (u _ rfl) fun K q => ?_
 iterate 2 (refine wC rfl fun K q => ?_; simp [y]; refine q _ ?_; clear q)
 obtain ⟨l2, hl2, h⟩ := bS h
 obtain ⟨hl2a, hl2b, hl2c, hl2d⟩ := mS hl2
 have hl2f : List.replicate (nodes1.length : Int).toNat (vi 0) = List.map vi l2 := rep_map (f := vi) hl2d
 try simp only [Int.toNat_natCast] at hl2f
 iterate 2 (refine wC rfl fun K q => ?_; simp [y, hl2a, hl2b, hl2c, hl2f]; refine q _ ?_; clear q)
 refine wN (q _ ?_); clear q
 obtain ⟨out31, hj3, h⟩ := bS h
 refine SWp.seqC [3] [] (fun _ : Unit => ⟨[(3, .t (.sl true 1 (List.map vi out31)))], []⟩) (fun _ => True) (fun _ _ => ?_) fun K4 hK4 => ?_
 rotate_left
 ·refine SWp.sR rfl (u _ rfl) fun K q => ?_
  refine wC rfl fun K q => ?_; simp [y]; refine q _ ?_; clear q
  refine wN (q _ ?_); clear q
  refine SWp.block ?_
  refine SWp.loopO [] [0, 3, 4] [] (fun v : (List Int) × Int => ⟨[(0, .t (.sl false 4 (List.map (GNode.enc false) nodes1))), (3, .t (.sl true 1 (List.map vi v.1))), (4, .t (vi v.2))], []⟩) (spec_l04Used_l1 nodes1) _ (l2, 0) hj3 (by simp [y]) ?_
  intro g s10 h8 ho9
  obtain ⟨out6, i7⟩ := g
  simp only [spec_l04Used_l1] at h8
  try dsimp only
  refine SWp.seq ?_
  refine SWp.sR rfl (u _ rfl) fun K q => ?_
  iterate 4 (refine wC rfl fun K q => ?_; simp [y]; refine q _ ?_; clear q)
  refine wN (q _ ?_); clear q
  rcases ite_or h8 with ⟨hb11, h8⟩ | ⟨hb12, h8⟩
  ·refine SWp.cT' (b := decide (i7 < (nodes1.length : Int))) (by simp) hb11 ?_
   refine SWp.skip ?_
   show SWp E C _ _ _
   obtain ⟨out29, hj13, h8⟩ := bS h8
   refine SWp.seqC [0, 3, 4] [] (fun _ : Unit => ⟨[(0, .t (.sl false 4 (List.map (GNode.enc false) nodes1))), (3, .t (.sl true 1 (List.map vi out29))), (4, .t (vi i7))], []⟩) (fun _ => True) (fun _ _ => ?_) fun K14 hK14 => ?_
   rotate_left
   ·refine SWp.block ?_
    refine SWp.sR rfl (u _ rfl) fun K q => ?_
    refine wC rfl fun K q => ?_; simp [y]; refine q _ ?_; clear q
    refine wN (q _ ?_); clear q
    refine SWp.block ?_
    refine SWp.loopO [] [0, 3, 4, 5] [] (fun v : (List Int) × Int => ⟨[(0, .t (.sl false 4 (List.map (GNode.enc false) nodes1))), (3, .t (.sl true 1 (List.map vi v.1))), (4, .t (vi i7)), (5, .t (vi v.2))], []⟩) (spec_l04Used_l2 nodes1 i7) _ (out6, 0) hj13 (by simp [y]) ?_
    intro g s20 h18 ho19
    obtain ⟨out16, j17⟩ := g
    simp only [spec_l04Used_l2] at h18
    try dsimp only
    refine SWp.seq ?_
    refine SWp.sR rfl (u _ rfl) fun K q => ?_
    iterate 3 (refine wC rfl fun K q => ?_; simp [y]; refine q _ ?_; clear q)
    obtain ⟨e21, he21, h18⟩ := bS h18
    obtain ⟨he21a, he21b, he21c, he21d⟩ := gS he21
    iterate 5 (refine wC rfl fun K q => ?_; simp [y, he21a, he21b, he21c, he21d]; refine q _ ?_; clear q)
    refine wN (q _ ?_); clear q
    rcases ite_or h18 with ⟨hb22, h18⟩ | ⟨hb23, h18⟩
    ·refine SWp.cT' (b := decide (j17 < (e21.Kids.length : Int))) (by simp) hb22 ?_
     refine SWp.skip ?_
     show SWp E C _ _ _
     refine SWp.seq ?_
     refine SWp.block ?_
     refine SWp.reg rfl (u _ rfl) fun K q => ?_
     iterate 3 (refine wC rfl fun K q => ?_; simp [y]; refine q _ ?_; clear q)
     obtain ⟨e24, he24, h18⟩ := bS h18
     obtain ⟨he24a, he24b, he24c, he24d⟩ := gS he24
     iterate 4 (refine wC rfl fun K q => ?_; simp [y, he24a, he24b, he24c, he24d]; refine q _ ?_; clear q)
     obtain ⟨e25, he25, h18⟩ := bS h18
     obtain ⟨he25a, he25b, he25c, he25d⟩ := gS he25
     iterate 2 (refine wC rfl fun K q => ?_; simp [y, he24a, he24b, he24c, he24d, he25a, he25b, he25c, he25d]; refine q _ ?_; clear q)
     obtain ⟨e26, he26, h18⟩ := bS h18
     obtain ⟨he26a, he26b, he26c, he26d⟩ := gS he26
     iterate 4 (refine wC rfl fun K q => ?_; simp [y, he24a, he24b, he24c, he24d, he25a, he25b, he25c, he25d, he26a, he26b, he26c, he26d]; refine q _ ?_; clear q)
     obtain ⟨l27, hl27, h18⟩ := bZ h18
     have hl27f : (List.map vi out16).set e25.toNat (vi (IntKind.wrap .i64 (e26 + 1))) = List.map vi l27 := set_map (f := vi) hl27
     try simp only [Int.toNat_natCast] at hl27f
     refine wC rfl fun K q => ?_; simp [y, he24a, he24b, he24c, he24d, he25a, he25b, he25c, he25d, he26a, he26b, he26c, he26d, hl27f]; refine q _ ?_; clear q
     refine wN (q _ ?_); clear q
     show SWp E C _ _ _
     refine SWp.reg rfl (u _ rfl) fun K q => ?_
     iterate 3 (refine wC rfl fun K q => ?_; simp [y]; refine q _ ?_; clear q)
     refine wN (q _ ?_); clear q
     cases h18
     exact ⟨_, [], rfl, by simp [y]⟩
    ·refine SWp.cF' (b := decide (j17 < (e21.Kids.length : Int))) (by simp) hb23 ?_
     refine SWp.exit ?_
     have h28 := congrArg some (ho19 _ (Option.some.inj h18).symm)
     cases h28
     exact hK14 _ () [] trivial (by simp [y])
   refine SWp.reg rfl (u _ rfl) fun K q => ?_
   iterate 3 (refine wC rfl fun K q => ?_; simp [y]; refine q _ ?_; clear q)
   refine wN (q _ ?_); clear q
   cases h8
   exact ⟨_, [], rfl, by simp [y]⟩
  ·refine SWp.cF' (b := decide (i7 < (nodes1.length : Int))) (by simp) hb12 ?_
   refine SWp.exit ?_
   have h30 := congrArg some (ho9 _ (Option.some.inj h8).symm)
   cases h30
   exact hK4 _ () [] trivial (by simp [y])
 refine SWp.sR rfl (u _ rfl) fun K q => ?_
 iterate 2 (refine wC rfl fun K q => ?_; simp [y]; refine q _ ?_; clear q)
 refine wN (q _ ?_); clear q
 cases h
 refine SWp.ret ?_
 simp [thenS, iB, res64]
theorem res79 : Tryz.f79.results.toList = [.tmp 4] := rfl
theorem ent79 : Enters E.P 79 := eO Tryz.func79 (by simp [Tryz.f79]) rfl
theorem spec_FnAt_ok (p1 : GProgram) (name2 : ByteArray) {r0 : Int} (h : spec_FnAt p1 name2 = some r0) : Ok E 79 [.val (GProgram.enc false p1), .val (vs name2)] [vi r0] [] := by
 refine oB (fn := Tryz.f79) Tryz.func79 rfl (by simp [Tryz.f79]) fun C hN hP => ?_
 have hPB : ∀ l, pinK [] l = true → pinB C.pin l = true := pO (by rw [hP]; rfl)
 have hN' : C.N = 22 := hN
 clear hN
 unfold spec_FnAt at h
 refine SWp.sR rfl (hPB _ rfl) fun K hK => ?_
 iterate 2 (refine wC rfl fun K hK => ?_; simp [hN']; refine hK _ ?_; clear hK)
 refine wN (hK _ ?_); clear hK
 obtain ⟨j5, hj3, h⟩ := bS h
 refine SWp.seqC [] [] (fun v : Unit => ⟨[], []⟩) (fun v => j5 = Sum.inl v) (fun v hv => ?_) fun K4 hK4 => ?_
 rotate_left
 ·refine SWp.sR rfl (hPB _ rfl) fun K hK => ?_
  refine wC rfl fun K hK => ?_; simp [hN']; refine hK _ ?_; clear hK
  refine wN (hK _ ?_); clear hK
  refine SWp.block ?_
  refine SWp.loopO [] [1, 2, 5] [2] (fun v : Int => ⟨[(1, .t (vs name2)), (2, .ref (.box 2) 0 []), (5, .t (vi v))], [(2, [.sl false 4 (List.map (GNode.enc false) p1.Nodes), .sl false 5 (List.map (GFn.enc false) p1.Fns)])]⟩) (spec_FnAt_l1 p1 name2) _ 0 hj3 (by simp [hN']) ?_
  intro g s9 h7 ho8
  obtain ⟨i6, hg⟩ : ∃ y, y = g := ⟨_, rfl⟩
  subst hg
  simp only [spec_FnAt_l1] at h7
  try dsimp only
  refine SWp.seq ?_
  refine SWp.sR rfl (hPB _ rfl) fun K hK => ?_
  iterate 5 (refine wC rfl fun K hK => ?_; simp [hN']; refine hK _ ?_; clear hK)
  refine wN (hK _ ?_); clear hK
  rcases ite_or h7 with ⟨hb10, h7⟩ | ⟨hb11, h7⟩
  ·refine SWp.cT' (b := decide (i6 < (p1.Fns.length : Int))) (by simp) hb10 ?_
   refine SWp.skip ?_
   show SWp E C _ _ _
   refine SWp.seq ?_
   refine SWp.block ?_
   refine SWp.sR rfl (hPB _ rfl) fun K hK => ?_
   iterate 3 (refine wC rfl fun K hK => ?_; simp [hN']; refine hK _ ?_; clear hK)
   obtain ⟨e12, he12, h7⟩ := bS h7
   obtain ⟨he12a, he12b, he12c, he12d⟩ := gS he12
   iterate 5 (refine wC rfl fun K hK => ?_; simp [hN', he12a, he12b, he12c, he12d]; refine hK _ ?_; clear hK)
   refine wN (hK _ ?_); clear hK
   rcases ite_or h7 with ⟨hb13, h7⟩ | ⟨hb14, h7⟩
   ·refine SWp.cT' (b := sEq e12.Name name2) (by simp) hb13 ?_
    refine SWp.sR rfl (hPB _ rfl) fun K hK => ?_
    iterate 2 (refine wC rfl fun K hK => ?_; simp [hN']; refine hK _ ?_; clear hK)
    refine wN (hK _ ?_); clear hK
    have h15 := congrArg some (ho8 _ (Option.some.inj h7).symm)
    cases h15
    try dsimp only at h
    cases h
    refine SWp.ret ?_
    simp [thenS, iB, res79]
   ·refine SWp.cF' (b := sEq e12.Name name2) (by simp) hb14 ?_
    refine SWp.skip ?_
    show SWp E C _ _ _
    refine SWp.reg rfl (hPB _ rfl) fun K hK => ?_
    iterate 3 (refine wC rfl fun K hK => ?_; simp [hN']; refine hK _ ?_; clear hK)
    refine wN (hK _ ?_); clear hK
    cases h7
    exact ⟨_, [], rfl, by simp [hN']⟩
  ·refine SWp.cF' (b := decide (i6 < (p1.Fns.length : Int))) (by simp) hb11 ?_
   refine SWp.exit ?_
   have h16 := congrArg some (ho8 _ (Option.some.inj h7).symm)
   cases h16
   exact hK4 _ _ [] rfl (by simp [hN'])
 subst hv
 obtain ⟨⟩ := v
 try dsimp only at h ⊢
 refine SWp.sR rfl (hPB _ rfl) fun K hK => ?_
 refine wC rfl fun K hK => ?_; simp [hN']; refine hK _ ?_; clear hK
 refine wN (hK _ ?_); clear hK
 cases h
 refine SWp.ret ?_
 simp [thenS, iB, res79]
theorem res65 : Tryz.f65.results.toList = [.tmp 4] := rfl
theorem ent65 : Enters E.P 65 := eO Tryz.func65 (by simp [Tryz.f65]) rfl
theorem spec_l04Fn_ok (p1 : GProgram) (i2 : Int) {r0 : Bool} (h : spec_l04Fn p1 i2 = some r0) : Ok E 65 [.val (GProgram.enc false p1), .val (vi i2)] [vb r0] [] := by
 refine oB (fn := Tryz.f65) Tryz.func65 rfl (by simp [Tryz.f65]) fun C hN hP => ?_
 have hPB : ∀ l, pinK [] l = true → pinB C.pin l = true := pO (by rw [hP]; rfl)
 have hN' : C.N = 102 := hN
 clear hN
 unfold spec_l04Fn at h
 refine SWp.sR rfl (hPB _ rfl) fun K hK => ?_
 iterate 2 (refine wC rfl fun K hK => ?_; simp [hN']; refine hK _ ?_; clear hK)
 refine wN (hK _ ?_); clear hK
 refine SWp.sR rfl (hPB _ rfl) fun K hK => ?_
 iterate 3 (refine wC rfl fun K hK => ?_; simp [hN']; refine hK _ ?_; clear hK)
 obtain ⟨e3, he3, h⟩ := bS h
 obtain ⟨he3a, he3b, he3c, he3d⟩ := gS he3
 iterate 4 (refine wC rfl fun K hK => ?_; simp [hN', he3a, he3b, he3c, he3d]; refine hK _ ?_; clear hK)
 refine wN (hK _ ?_); clear hK
 refine SWp.seq ?_
 obtain ⟨v18, hj4, h⟩ := bS h
 refine SWp.seqRC rfl (hPB _ rfl) [2, 5, 35] [2, 5] (fun _ : Unit => ⟨[(2, .ref (.box 2) 0 []), (5, .ref (.box 5) 0 []), (35, .t (vb v18))], [(2, [.sl false 4 (List.map (GNode.enc false) p1.Nodes), .sl false 5 (List.map (GFn.enc false) p1.Fns)]), (5, [vs e3.Name, .sl false 2 (List.map GParam.enc e3.Params), vi e3.Res, vi e3.Body, vi e3.Ret])]⟩) (fun _ => True) (fun _ _ => ?_) fun K5 hK5 => ?_
 rotate_left
 ·refine wC rfl fun K hK => ?_; simp [hN']; refine hK _ ?_; clear hK
  refine wC rfl fun K hK => ?_; simp [hN']; refine hK _ ?_; clear hK
  obtain ⟨r6, hc7, hj4⟩ := bS hj4
  refine wL [(.take, .tmp 13)] rfl rfl ent91 (spec_NameOk_ok _ hc7) fun K hK => ?_; simp [hN']; refine hK _ ?_; clear hK
  iterate 2 (refine wC rfl fun K hK => ?_; simp [hN']; refine hK _ ?_; clear hK)
  rcases ite_or hj4 with ⟨hb8, hj4⟩ | ⟨hb9, hj4⟩
  ·have hb8s := hb8
   try simp at hb8s
   iterate 6 (refine wO fun K hK => ?_; simp [hN', hb8, hb8s]; refine hK _ ?_; clear hK)
   iterate 2 (refine wC rfl fun K hK => ?_; simp [hN', hb8, hb8s]; refine hK _ ?_; clear hK)
   iterate 4 (refine wO fun K hK => ?_; simp [hN', hb8, hb8s]; refine hK _ ?_; clear hK)
   iterate 2 (refine wC rfl fun K hK => ?_; simp [hN', hb8, hb8s]; refine hK _ ?_; clear hK)
   iterate 4 (refine wO fun K hK => ?_; simp [hN', hb8, hb8s]; refine hK _ ?_; clear hK)
   refine wC rfl fun K hK => ?_; simp [hN', hb8, hb8s]; refine hK _ ?_; clear hK
   refine wN ?_
   cases hj4
   exact hK5 _ () [] trivial (by simp [hN', hb8, hb8s])
  ·have hb9s := hb9
   try simp at hb9s
   iterate 3 (refine wC rfl fun K hK => ?_; simp [hN', hb9, hb9s]; refine hK _ ?_; clear hK)
   obtain ⟨r10, hc11, hj4⟩ := bS hj4
   refine wL [(.take, .tmp 17), (.take, .tmp 19)] rfl rfl ent79 (spec_FnAt_ok _ _ hc11) fun K hK => ?_; simp [hN', hb9, hb9s]; refine hK _ ?_; clear hK
   iterate 4 (refine wC rfl fun K hK => ?_; simp [hN', hb9, hb9s]; refine hK _ ?_; clear hK)
   rcases ite_or hj4 with ⟨hb12, hj4⟩ | ⟨hb13, hj4⟩
   ·have hb12s := hb12
    try simp at hb12s
    iterate 4 (refine wO fun K hK => ?_; simp [hN', hb9, hb9s, hb12, hb12s]; refine hK _ ?_; clear hK)
    iterate 2 (refine wC rfl fun K hK => ?_; simp [hN', hb9, hb9s, hb12, hb12s]; refine hK _ ?_; clear hK)
    iterate 4 (refine wO fun K hK => ?_; simp [hN', hb9, hb9s, hb12, hb12s]; refine hK _ ?_; clear hK)
    refine wC rfl fun K hK => ?_; simp [hN', hb9, hb9s, hb12, hb12s]; refine hK _ ?_; clear hK
    refine wN ?_
    cases hj4
    exact hK5 _ () [] trivial (by simp [hN', hb9, hb9s, hb12, hb12s])
   ·have hb13s := hb13
    try simp at hb13s
    iterate 6 (refine wC rfl fun K hK => ?_; simp [hN', hb9, hb9s, hb13, hb13s]; refine hK _ ?_; clear hK)
    rcases ite_or hj4 with ⟨hb14, hj4⟩ | ⟨hb15, hj4⟩
    ·have hb14s := hb14
     try simp at hb14s
     iterate 4 (refine wO fun K hK => ?_; simp [hN', hb9, hb9s, hb13, hb13s, hb14, hb14s]; refine hK _ ?_; clear hK)
     refine wC rfl fun K hK => ?_; simp [hN', hb9, hb9s, hb13, hb13s, hb14, hb14s]; refine hK _ ?_; clear hK
     refine wN ?_
     cases hj4
     exact hK5 _ () [] trivial (by simp [hN', hb9, hb9s, hb13, hb13s, hb14, hb14s])
    ·have hb15s := hb15
     try simp at hb15s
     iterate 2 (refine wC rfl fun K hK => ?_; simp [hN', hb9, hb9s, hb13, hb13s, hb15, hb15s]; refine hK _ ?_; clear hK)
     obtain ⟨r16, hc17, hj4⟩ := bS hj4
     refine wL [(.take, .tmp 32), (.take, .const (.int .i64 0)), (.take, .const (.int .i64 2))] rfl rfl ent51 (spec_l01In_ok _ _ _ hc17) fun K hK => ?_; simp [hN', hb9, hb9s, hb13, hb13s, hb15, hb15s]; refine hK _ ?_; clear hK
     iterate 2 (refine wC rfl fun K hK => ?_; simp [hN', hb9, hb9s, hb13, hb13s, hb15, hb15s]; refine hK _ ?_; clear hK)
     refine wN ?_
     cases hj4
     exact hK5 _ () [] trivial (by simp [hN', hb9, hb9s, hb13, hb13s, hb15, hb15s])
 rcases ite_or h with ⟨hb19, h⟩ | ⟨hb20, h⟩
 ·refine SWp.cT' (b := v18) (by simp) hb19 ?_
  refine SWp.sR rfl (hPB _ rfl) fun K hK => ?_
  refine wC rfl fun K hK => ?_; simp [hN']; refine hK _ ?_; clear hK
  refine wN (hK _ ?_); clear hK
  cases h
  refine SWp.ret ?_
  simp [thenS, iB, res65]
 ·refine SWp.cF' (b := v18) (by simp) hb20 ?_
  refine SWp.skip ?_
  show SWp E C _ _ _
  obtain ⟨j23, hj21, h⟩ := bS h
  refine SWp.seqC [2, 5] [2, 5] (fun v : Unit => ⟨[(2, .ref (.box 2) 0 []), (5, .ref (.box 5) 0 [])], [(2, [.sl false 4 (List.map (GNode.enc false) p1.Nodes), .sl false 5 (List.map (GFn.enc false) p1.Fns)]), (5, [vs e3.Name, .sl false 2 (List.map GParam.enc e3.Params), vi e3.Res, vi e3.Body, vi e3.Ret])]⟩) (fun v => j23 = Sum.inl v) (fun v hv => ?_) fun K22 hK22 => ?_
  rotate_left
  ·refine SWp.sR rfl (hPB _ rfl) fun K hK => ?_
   refine wC rfl fun K hK => ?_; simp [hN']; refine hK _ ?_; clear hK
   refine wN (hK _ ?_); clear hK
   refine SWp.block ?_
   refine SWp.loopO [] [2, 5, 6] [2, 5] (fun v : Int => ⟨[(2, .ref (.box 2) 0 []), (5, .ref (.box 5) 0 []), (6, .t (vi v))], [(2, [.sl false 4 (List.map (GNode.enc false) p1.Nodes), .sl false 5 (List.map (GFn.enc false) p1.Fns)]), (5, [vs e3.Name, .sl false 2 (List.map GParam.enc e3.Params), vi e3.Res, vi e3.Body, vi e3.Ret])]⟩) (spec_l04Fn_l1 e3) _ 0 hj21 (by simp [hN']) ?_
   intro g s27 h25 ho26
   obtain ⟨k24, hg⟩ : ∃ y, y = g := ⟨_, rfl⟩
   subst hg
   simp only [spec_l04Fn_l1] at h25
   try dsimp only
   refine SWp.seq ?_
   refine SWp.sR rfl (hPB _ rfl) fun K hK => ?_
   iterate 5 (refine wC rfl fun K hK => ?_; simp [hN']; refine hK _ ?_; clear hK)
   refine wN (hK _ ?_); clear hK
   rcases ite_or h25 with ⟨hb28, h25⟩ | ⟨hb29, h25⟩
   ·refine SWp.cT' (b := decide (k24 < (e3.Params.length : Int))) (by simp) hb28 ?_
    refine SWp.skip ?_
    show SWp E C _ _ _
    refine SWp.seq ?_
    refine SWp.block ?_
    obtain ⟨v39, hj30, h25⟩ := bS h25
    refine SWp.seqRC rfl (hPB _ rfl) [2, 5, 6, 60] [2, 5] (fun _ : Unit => ⟨[(2, .ref (.box 2) 0 []), (5, .ref (.box 5) 0 []), (6, .t (vi k24)), (60, .t (vb v39))], [(2, [.sl false 4 (List.map (GNode.enc false) p1.Nodes), .sl false 5 (List.map (GFn.enc false) p1.Fns)]), (5, [vs e3.Name, .sl false 2 (List.map GParam.enc e3.Params), vi e3.Res, vi e3.Body, vi e3.Ret])]⟩) (fun _ => True) (fun _ _ => ?_) fun K31 hK31 => ?_
    rotate_left
    ·refine wC rfl fun K hK => ?_; simp [hN']; refine hK _ ?_; clear hK
     iterate 2 (refine wC rfl fun K hK => ?_; simp [hN']; refine hK _ ?_; clear hK)
     obtain ⟨e32, he32, hj30⟩ := bS hj30
     obtain ⟨he32a, he32b, he32c, he32d⟩ := gS he32
     iterate 3 (refine wC rfl fun K hK => ?_; simp [hN', he32a, he32b, he32c, he32d]; refine hK _ ?_; clear hK)
     obtain ⟨r33, hc34, hj30⟩ := bS hj30
     refine wL [(.take, .tmp 48)] rfl rfl ent91 (spec_NameOk_ok _ hc34) fun K hK => ?_; simp [hN', he32a, he32b, he32c, he32d]; refine hK _ ?_; clear hK
     iterate 2 (refine wC rfl fun K hK => ?_; simp [hN', he32a, he32b, he32c, he32d]; refine hK _ ?_; clear hK)
     rcases ite_or hj30 with ⟨hb35, hj30⟩ | ⟨hb36, hj30⟩
     ·have hb35s := hb35
      try simp at hb35s
      iterate 8 (refine wO fun K hK => ?_; simp [hN', he32a, he32b, he32c, he32d, hb35, hb35s]; refine hK _ ?_; clear hK)
      refine wC rfl fun K hK => ?_; simp [hN', he32a, he32b, he32c, he32d, hb35, hb35s]; refine hK _ ?_; clear hK
      refine wN ?_
      cases hj30
      exact hK31 _ () [] trivial (by simp [hN', he32a, he32b, he32c, he32d, hb35, hb35s])
     ·have hb36s := hb36
      try simp at hb36s
      iterate 6 (refine wC rfl fun K hK => ?_; simp [hN', he32a, he32b, he32c, he32d, hb36, hb36s]; refine hK _ ?_; clear hK)
      obtain ⟨r37, hc38, hj30⟩ := bS hj30
      refine wL [(.take, .tmp 57), (.take, .const (.int .i64 1)), (.take, .const (.int .i64 4))] rfl rfl ent51 (spec_l01In_ok _ _ _ hc38) fun K hK => ?_; simp [hN', he32a, he32b, he32c, he32d, hb36, hb36s]; refine hK _ ?_; clear hK
      iterate 2 (refine wC rfl fun K hK => ?_; simp [hN', he32a, he32b, he32c, he32d, hb36, hb36s]; refine hK _ ?_; clear hK)
      refine wN ?_
      cases hj30
      exact hK31 _ () [] trivial (by simp [hN', he32a, he32b, he32c, he32d, hb36, hb36s])
    rcases ite_or h25 with ⟨hb40, h25⟩ | ⟨hb41, h25⟩
    ·refine SWp.cT' (b := v39) (by simp) hb40 ?_
     refine SWp.sR rfl (hPB _ rfl) fun K hK => ?_
     refine wC rfl fun K hK => ?_; simp [hN']; refine hK _ ?_; clear hK
     refine wN (hK _ ?_); clear hK
     have h42 := congrArg some (ho26 _ (Option.some.inj h25).symm)
     cases h42
     try dsimp only at h
     cases h
     refine SWp.ret ?_
     simp [thenS, iB, res65]
    ·refine SWp.cF' (b := v39) (by simp) hb41 ?_
     refine SWp.skip ?_
     show SWp E C _ _ _
     refine SWp.reg rfl (hPB _ rfl) fun K hK => ?_
     iterate 3 (refine wC rfl fun K hK => ?_; simp [hN']; refine hK _ ?_; clear hK)
     refine wN (hK _ ?_); clear hK
     cases h25
     exact ⟨_, [], rfl, by simp [hN']⟩
   ·refine SWp.cF' (b := decide (k24 < (e3.Params.length : Int))) (by simp) hb29 ?_
    refine SWp.exit ?_
    have h43 := congrArg some (ho26 _ (Option.some.inj h25).symm)
    cases h43
    exact hK22 _ _ [] rfl (by simp [hN'])
  subst hv
  obtain ⟨⟩ := v
  try dsimp only at h ⊢
  refine SWp.seq ?_
  obtain ⟨v51, hj44, h⟩ := bS h
  refine SWp.seqRC rfl (hPB _ rfl) [2, 5, 78] [2, 5] (fun _ : Unit => ⟨[(2, .ref (.box 2) 0 []), (5, .ref (.box 5) 0 []), (78, .t (vb v51))], [(2, [.sl false 4 (List.map (GNode.enc false) p1.Nodes), .sl false 5 (List.map (GFn.enc false) p1.Fns)]), (5, [vs e3.Name, .sl false 2 (List.map GParam.enc e3.Params), vi e3.Res, vi e3.Body, vi e3.Ret])]⟩) (fun _ => True) (fun _ _ => ?_) fun K45 hK45 => ?_
  rotate_left
  ·refine wC rfl fun K hK => ?_; simp [hN']; refine hK _ ?_; clear hK
   iterate 5 (refine wC rfl fun K hK => ?_; simp [hN']; refine hK _ ?_; clear hK)
   obtain ⟨r46, hc47, hj44⟩ := bS hj44
   refine wL [(.take, .tmp 62), (.take, .const (.int .i64 0)), (.take, .tmp 66)] rfl rfl ent51 (spec_l01In_ok _ _ _ hc47) fun K hK => ?_; simp [hN']; refine hK _ ?_; clear hK
   iterate 2 (refine wC rfl fun K hK => ?_; simp [hN']; refine hK _ ?_; clear hK)
   rcases ite_or hj44 with ⟨hb48, hj44⟩ | ⟨hb49, hj44⟩
   ·have hb48s := hb48
    try simp at hb48s
    iterate 8 (refine wO fun K hK => ?_; simp [hN', hb48, hb48s]; refine hK _ ?_; clear hK)
    refine wC rfl fun K hK => ?_; simp [hN', hb48, hb48s]; refine hK _ ?_; clear hK
    refine wN ?_
    cases hj44
    exact hK45 _ () [] trivial (by simp [hN', hb48, hb48s])
   ·have hb49s := hb49
    try simp at hb49s
    iterate 4 (refine wC rfl fun K hK => ?_; simp [hN', hb49, hb49s]; refine hK _ ?_; clear hK)
    obtain ⟨e50, he50, hj44⟩ := bS hj44
    obtain ⟨he50a, he50b, he50c, he50d⟩ := gS he50
    have he50j := he50b; try simp at he50j
    try simp only [Int.toNat_natCast] at he50c he50d
    iterate 5 (refine wC rfl fun K hK => ?_; simp [hN', hb49, hb49s, he50a, he50b, he50c, he50d, he50j]; refine hK _ ?_; clear hK)
    refine wN ?_
    cases hj44
    exact hK45 _ () [] trivial (by simp [hN', hb49, hb49s, he50a, he50b, he50c, he50d, he50j])
  rcases ite_or h with ⟨hb52, h⟩ | ⟨hb53, h⟩
  ·refine SWp.cT' (b := v51) (by simp) hb52 ?_
   refine SWp.sR rfl (hPB _ rfl) fun K hK => ?_
   refine wC rfl fun K hK => ?_; simp [hN']; refine hK _ ?_; clear hK
   refine wN (hK _ ?_); clear hK
   cases h
   refine SWp.ret ?_
   simp [thenS, iB, res65]
  ·refine SWp.cF' (b := v51) (by simp) hb53 ?_
   refine SWp.skip ?_
   show SWp E C _ _ _
   refine SWp.seq ?_
   refine SWp.sR rfl (hPB _ rfl) fun K hK => ?_
   iterate 3 (refine wC rfl fun K hK => ?_; simp [hN']; refine hK _ ?_; clear hK)
   refine wN (hK _ ?_); clear hK
   rcases ite_or h with ⟨hb54, h⟩ | ⟨hb55, h⟩
   ·refine SWp.cT' (b := e3.Res == 0) (by simp) hb54 ?_
    refine SWp.sR rfl (hPB _ rfl) fun K hK => ?_
    iterate 4 (refine wC rfl fun K hK => ?_; simp [hN']; refine hK _ ?_; clear hK)
    refine wN (hK _ ?_); clear hK
    cases h
    refine SWp.ret ?_
    simp [thenS, iB, res65]
   ·refine SWp.cF' (b := e3.Res == 0) (by simp) hb55 ?_
    refine SWp.skip ?_
    show SWp E C _ _ _
    obtain ⟨v65, hj56, h⟩ := bS h
    refine SWp.seqRC rfl (hPB _ rfl) [4] [] (fun _ : Unit => ⟨[(4, .t (vb v65))], []⟩) (fun _ => True) (fun _ _ => ?_) fun K57 hK57 => ?_
    rotate_left
    ·refine wC rfl fun K hK => ?_; simp [hN']; refine hK _ ?_; clear hK
     iterate 5 (refine wC rfl fun K hK => ?_; simp [hN']; refine hK _ ?_; clear hK)
     obtain ⟨r58, hc59, hj56⟩ := bS hj56
     refine wL [(.take, .tmp 86), (.take, .const (.int .i64 0)), (.take, .tmp 90)] rfl rfl ent51 (spec_l01In_ok _ _ _ hc59) fun K hK => ?_; simp [hN']; refine hK _ ?_; clear hK
     refine wC rfl fun K hK => ?_; simp [hN']; refine hK _ ?_; clear hK
     rcases ite_or hj56 with ⟨hb60, hj56⟩ | ⟨hb61, hj56⟩
     ·have hb60s := hb60
      try simp at hb60s
      iterate 4 (refine wC rfl fun K hK => ?_; simp [hN', hb60, hb60s]; refine hK _ ?_; clear hK)
      obtain ⟨e62, he62, hj56⟩ := bS hj56
      obtain ⟨he62a, he62b, he62c, he62d⟩ := gS he62
      have he62j := he62b; try simp at he62j
      try simp only [Int.toNat_natCast] at he62c he62d
      iterate 3 (refine wC rfl fun K hK => ?_; simp [hN', hb60, hb60s, he62a, he62b, he62c, he62d, he62j]; refine hK _ ?_; clear hK)
      obtain ⟨r63, hc64, hj56⟩ := bS hj56
      refine wL [(.take, .tmp 99)] rfl rfl ent92 (spec_l04Value_ok _ hc64) fun K hK => ?_; simp [hN', hb60, hb60s, he62a, he62b, he62c, he62d, he62j]; refine hK _ ?_; clear hK
      iterate 2 (refine wC rfl fun K hK => ?_; simp [hN', hb60, hb60s, he62a, he62b, he62c, he62d, he62j]; refine hK _ ?_; clear hK)
      refine wN ?_
      cases hj56
      exact hK57 _ () [] trivial (by simp [hN', hb60, hb60s, he62a, he62b, he62c, he62d, he62j])
     ·have hb61s := hb61
      try simp at hb61s
      iterate 8 (refine wO fun K hK => ?_; simp [hN', hb61, hb61s]; refine hK _ ?_; clear hK)
      iterate 2 (refine wC rfl fun K hK => ?_; simp [hN', hb61, hb61s]; refine hK _ ?_; clear hK)
      refine wN ?_
      cases hj56
      exact hK57 _ () [] trivial (by simp [hN', hb61, hb61s])
    cases h
    refine SWp.ret ?_
    simp [thenS, iB, res65]
theorem res34 : Tryz.f34.results.toList = [.tmp 2] := rfl
theorem ent34 : Enters E.P 34 := eO Tryz.func34 (by simp [Tryz.f34]) rfl
theorem spec_ProgramOk_ok (p1 : GProgram) {r0 : Bool} (h : spec_ProgramOk p1 = some r0) : Ok E 34 [.val (GProgram.enc false p1)] [vb r0] [] := by
 refine oB (fn := Tryz.f34) Tryz.func34 rfl (by simp [Tryz.f34]) fun C hN hP => ?_
 have hPB : ∀ l, pinK [] l = true → pinB C.pin l = true := pO (by rw [hP]; rfl)
 have hN' : C.N = 108 := hN
 clear hN
 unfold spec_ProgramOk at h
 refine SWp.sR rfl (hPB _ rfl) fun K hK => ?_
 iterate 2 (refine wC rfl fun K hK => ?_; simp [hN']; refine hK _ ?_; clear hK)
 refine wN (hK _ ?_); clear hK
 refine SWp.seq ?_
 obtain ⟨v10, hj2, h⟩ := bS h
 refine SWp.seqRC rfl (hPB _ rfl) [1, 18] [1] (fun _ : Unit => ⟨[(1, .ref (.box 1) 0 []), (18, .t (vb v10))], [(1, [.sl false 4 (List.map (GNode.enc false) p1.Nodes), .sl false 5 (List.map (GFn.enc false) p1.Fns)])]⟩) (fun _ => True) (fun _ _ => ?_) fun K3 hK3 => ?_
 rotate_left
 ·refine wC rfl fun K hK => ?_; simp [hN']; refine hK _ ?_; clear hK
  iterate 2 (refine wC rfl fun K hK => ?_; simp [hN']; refine hK _ ?_; clear hK)
  obtain ⟨r4, hc5, hj2⟩ := bS hj2
  refine wL [(.take, .tmp 9), (.take, .const (.int .i64 1)), (.take, .const (.int .i64 300))] rfl rfl ent51 (spec_l01In_ok _ _ _ hc5) fun K hK => ?_; simp [hN']; refine hK _ ?_; clear hK
  iterate 2 (refine wC rfl fun K hK => ?_; simp [hN']; refine hK _ ?_; clear hK)
  rcases ite_or hj2 with ⟨hb6, hj2⟩ | ⟨hb7, hj2⟩
  ·have hb6s := hb6
   try simp at hb6s
   iterate 5 (refine wO fun K hK => ?_; simp [hN', hb6, hb6s]; refine hK _ ?_; clear hK)
   refine wC rfl fun K hK => ?_; simp [hN', hb6, hb6s]; refine hK _ ?_; clear hK
   refine wN ?_
   cases hj2
   exact hK3 _ () [] trivial (by simp [hN', hb6, hb6s])
  ·have hb7s := hb7
   try simp at hb7s
   iterate 3 (refine wC rfl fun K hK => ?_; simp [hN', hb7, hb7s]; refine hK _ ?_; clear hK)
   obtain ⟨r8, hc9, hj2⟩ := bS hj2
   refine wL [(.take, .tmp 15), (.take, .const (.int .i64 1)), (.take, .const (.int .i64 8))] rfl rfl ent51 (spec_l01In_ok _ _ _ hc9) fun K hK => ?_; simp [hN', hb7, hb7s]; refine hK _ ?_; clear hK
   iterate 2 (refine wC rfl fun K hK => ?_; simp [hN', hb7, hb7s]; refine hK _ ?_; clear hK)
   refine wN ?_
   cases hj2
   exact hK3 _ () [] trivial (by simp [hN', hb7, hb7s])
 rcases ite_or h with ⟨hb11, h⟩ | ⟨hb12, h⟩
 ·refine SWp.cT' (b := v10) (by simp) hb11 ?_
  refine SWp.sR rfl (hPB _ rfl) fun K hK => ?_
  refine wC rfl fun K hK => ?_; simp [hN']; refine hK _ ?_; clear hK
  refine wN (hK _ ?_); clear hK
  cases h
  refine SWp.ret ?_
  simp [thenS, iB, res34]
 ·refine SWp.cF' (b := v10) (by simp) hb12 ?_
  refine SWp.skip ?_
  show SWp E C _ _ _
  refine SWp.sR rfl (hPB _ rfl) fun K hK => ?_
  iterate 6 (refine wC rfl fun K hK => ?_; simp [hN']; refine hK _ ?_; clear hK)
  obtain ⟨r13, hc14, h⟩ := bS h
  refine wL [(.take, .tmp 20), (.take, .tmp 24)] rfl rfl ent63 (spec_l04Deeps_ok _ _ hc14) fun K hK => ?_; simp [hN']; refine hK _ ?_; clear hK
  refine wC rfl fun K hK => ?_; simp [hN']; refine hK _ ?_; clear hK
  refine wN (hK _ ?_); clear hK
  refine SWp.seq ?_
  refine SWp.sR rfl (hPB _ rfl) fun K hK => ?_
  iterate 4 (refine wC rfl fun K hK => ?_; simp [hN']; refine hK _ ?_; clear hK)
  obtain ⟨e15, he15, h⟩ := bS h
  obtain ⟨he15a, he15b, he15c, he15d⟩ := gS he15
  have he15j := he15b; try simp at he15j
  try simp only [Int.toNat_natCast] at he15c he15d
  iterate 3 (refine wC rfl fun K hK => ?_; simp [hN', he15a, he15b, he15c, he15d, he15j]; refine hK _ ?_; clear hK)
  refine wN (hK _ ?_); clear hK
  rcases ite_or h with ⟨hb16, h⟩ | ⟨hb17, h⟩
  ·refine SWp.cT' (b := e15 == 0) (by simp) hb16 ?_
   refine SWp.sR rfl (hPB _ rfl) fun K hK => ?_
   refine wC rfl fun K hK => ?_; simp [hN']; refine hK _ ?_; clear hK
   refine wN (hK _ ?_); clear hK
   cases h
   refine SWp.ret ?_
   simp [thenS, iB, res34]
  ·refine SWp.cF' (b := e15 == 0) (by simp) hb17 ?_
   refine SWp.skip ?_
   show SWp E C _ _ _
   refine SWp.sR rfl (hPB _ rfl) fun K hK => ?_
   iterate 2 (refine wC rfl fun K hK => ?_; simp [hN']; refine hK _ ?_; clear hK)
   obtain ⟨r18, hc19, h⟩ := bS h
   refine wL [(.take, .tmp 34)] rfl rfl ent64 (spec_l04Used_ok _ hc19) fun K hK => ?_; simp [hN']; refine hK _ ?_; clear hK
   refine wC rfl fun K hK => ?_; simp [hN']; refine hK _ ?_; clear hK
   refine wN (hK _ ?_); clear hK
   obtain ⟨j22, hj20, h⟩ := bS h
   refine SWp.seqC [4] [] (fun v : List Int => ⟨[(4, .t (.sl true 1 (List.map vi v)))], []⟩) (fun v => j22 = Sum.inl v) (fun v hv => ?_) fun K21 hK21 => ?_
   rotate_left
   ·refine SWp.sR rfl (hPB _ rfl) fun K hK => ?_
    refine wC rfl fun K hK => ?_; simp [hN']; refine hK _ ?_; clear hK
    refine wN (hK _ ?_); clear hK
    refine SWp.block ?_
    refine SWp.loopO [] [1, 4, 5] [1] (fun v : (List Int) × Int => ⟨[(1, .ref (.box 1) 0 []), (4, .t (.sl true 1 (List.map vi v.1))), (5, .t (vi v.2))], [(1, [.sl false 4 (List.map (GNode.enc false) p1.Nodes), .sl false 5 (List.map (GFn.enc false) p1.Fns)])]⟩) (spec_ProgramOk_l1 p1) _ (r18, 0) hj20 (by simp [hN']) ?_
    intro g s27 h25 ho26
    obtain ⟨used23, i24⟩ := g
    simp only [spec_ProgramOk_l1] at h25
    try dsimp only
    refine SWp.seq ?_
    refine SWp.sR rfl (hPB _ rfl) fun K hK => ?_
    iterate 5 (refine wC rfl fun K hK => ?_; simp [hN']; refine hK _ ?_; clear hK)
    refine wN (hK _ ?_); clear hK
    rcases ite_or h25 with ⟨hb28, h25⟩ | ⟨hb29, h25⟩
    ·refine SWp.cT' (b := decide (i24 < (p1.Fns.length : Int))) (by simp) hb28 ?_
     refine SWp.skip ?_
     show SWp E C _ _ _
     refine SWp.seq ?_
     refine SWp.block ?_
     refine SWp.seq ?_
     refine SWp.sR rfl (hPB _ rfl) fun K hK => ?_
     iterate 2 (refine wC rfl fun K hK => ?_; simp [hN']; refine hK _ ?_; clear hK)
     obtain ⟨r30, hc31, h25⟩ := bS h25
     refine wL [(.take, .tmp 43), (.take, .tmp 44)] rfl rfl ent65 (spec_l04Fn_ok _ _ hc31) fun K hK => ?_; simp [hN']; refine hK _ ?_; clear hK
     refine wC rfl fun K hK => ?_; simp [hN']; refine hK _ ?_; clear hK
     refine wN (hK _ ?_); clear hK
     rcases ite_or h25 with ⟨hb32, h25⟩ | ⟨hb33, h25⟩
     ·refine SWp.cT' (b := !r30) (by simp) hb32 ?_
      refine SWp.sR rfl (hPB _ rfl) fun K hK => ?_
      refine wC rfl fun K hK => ?_; simp [hN']; refine hK _ ?_; clear hK
      refine wN (hK _ ?_); clear hK
      have h34 := congrArg some (ho26 _ (Option.some.inj h25).symm)
      cases h34
      try dsimp only at h
      cases h
      refine SWp.ret ?_
      simp [thenS, iB, res34]
     ·refine SWp.cF' (b := !r30) (by simp) hb33 ?_
      refine SWp.skip ?_
      show SWp E C _ _ _
      refine SWp.seq ?_
      obtain ⟨e36, he36, h25⟩ := bS h25
      obtain ⟨he36a, he36b, he36c, he36d⟩ := gS he36
      obtain ⟨e37, he37, h25⟩ := bS h25
      obtain ⟨he37a, he37b, he37c, he37d⟩ := gS he37
      have he37j := he37b; try simp at he37j
      try simp only [Int.toNat_natCast] at he37c he37d
      refine SWp.dT rfl (hPB _ rfl) [(47, .al (.slot 4) 0 [] none), (48, .ref (.box 1) 1 []), (49, .t (.sl false 5 (List.map (GFn.enc false) p1.Fns))), (50, .t (vi i24)), (51, .rop [vs e36.Name, .sl false 2 (List.map GParam.enc e36.Params), vi e36.Res, vi e36.Body, vi e36.Ret] 0), (52, .rop [vs e36.Name, .sl false 2 (List.map GParam.enc e36.Params), vi e36.Res, vi e36.Body, vi e36.Ret] 3), (53, .t (vi e36.Body)), (54, .al (.slot 4) 0 [] none), (55, .ref (.box 1) 1 []), (56, .t (.sl false 5 (List.map (GFn.enc false) p1.Fns))), (57, .t (vi i24)), (58, .rop [vs e36.Name, .sl false 2 (List.map GParam.enc e36.Params), vi e36.Res, vi e36.Body, vi e36.Ret] 0), (59, .rop [vs e36.Name, .sl false 2 (List.map GParam.enc e36.Params), vi e36.Res, vi e36.Body, vi e36.Ret] 3), (60, .t (vi e36.Body)), (61, .ref (.slot 4) 0 [(e36.Body.toNat, 0)]), (62, .t (vi e37)), (63, .t (vi (IntKind.wrap .i64 (e37 + 1000))))] [[], [], [1], [], [1, 2, 3], [1, 2, 3, 4], [1, 2, 3, 4, 5], [], [], [8], [], [8, 9, 10], [8, 9, 10, 11], [8, 9, 10, 11, 12], [7, 8, 9, 10, 11, 12, 13], [7, 8, 9, 10, 11, 12, 13, 14], [7, 8, 9, 10, 11, 12, 13, 14, 15], [0, 1, 2, 3, 4, 5, 6, 7, 8, 9, 10, 11, 12, 13, 14, 15, 16], [0, 1, 2, 3, 4, 5, 6, 7, 8, 9, 10, 11, 12, 13, 14, 15, 16, 17]] (by simp) (by simp) (by simp [look]) rfl rfl rfl ?_ fun K hK => ?_
      ·refine ⟨?_, ?_, ?_, ?_, ?_, ?_, ?_, ?_, ?_, ?_, ?_, ?_, ?_, ?_, ?_, ?_, ?_, trivial⟩
       all_goals (intro τ hbx hb hd hf K hK; try simp [vsAt] at hd; simp [vsAt] at hf; first | (refine wC rfl fun K' hK' => ?_; simp [hN', hbx, hb, hd, hf, he36a, he36b, he36c, he36d, he37a, he37b, he37c, he37d, he37j]; exact hK' _ (wN (hK _ (by simp [vsAt, hbx, he36a, he36b, he36c, he36d, he37a, he37b, he37c, he37d, he37j])))))
      refine wC rfl fun K hK => ?_; simp [hN', he36a, he36b, he36c, he36d, he37a, he37b, he37c, he37d, he37j]; refine hK _ ?_; clear hK
      obtain ⟨l38, hl38, h25⟩ := bZ h25
      have hl38f : (List.map vi used23).set e36.Body.toNat (vi (IntKind.wrap .i64 (e37 + 1000))) = List.map vi l38 := set_map (f := vi) hl38
      try simp only [Int.toNat_natCast] at hl38f
      refine wC rfl fun K hK => ?_; simp [hN', he36a, he36b, he36c, he36d, he37a, he37b, he37c, he37d, he37j, hl38f]; refine hK _ ?_; clear hK
      refine wN (hK _ ?_); clear hK
      show SWp E C _ _ _
      refine SWp.sR rfl (hPB _ rfl) fun K hK => ?_
      iterate 3 (refine wC rfl fun K hK => ?_; simp [hN']; refine hK _ ?_; clear hK)
      obtain ⟨e39, he39, h25⟩ := bS h25
      obtain ⟨he39a, he39b, he39c, he39d⟩ := gS he39
      iterate 4 (refine wC rfl fun K hK => ?_; simp [hN', he39a, he39b, he39c, he39d]; refine hK _ ?_; clear hK)
      refine wN (hK _ ?_); clear hK
      rcases ite_or h25 with ⟨hb40, h25⟩ | ⟨hb41, h25⟩
      ·refine SWp.cT' (b := decide (e39.Ret ≥ 0)) (by simp) hb40 ?_
       obtain ⟨e43, he43, h25⟩ := bS h25
       obtain ⟨he43a, he43b, he43c, he43d⟩ := gS he43
       obtain ⟨e44, he44, h25⟩ := bS h25
       obtain ⟨he44a, he44b, he44c, he44d⟩ := gS he44
       have he44j := he44b; try simp at he44j
       try simp only [Int.toNat_natCast] at he44c he44d
       refine SWp.dT rfl (hPB _ rfl) [(72, .al (.slot 4) 0 [] none), (73, .ref (.box 1) 1 []), (74, .t (.sl false 5 (List.map (GFn.enc false) p1.Fns))), (75, .t (vi i24)), (76, .rop [vs e43.Name, .sl false 2 (List.map GParam.enc e43.Params), vi e43.Res, vi e43.Body, vi e43.Ret] 0), (77, .rop [vs e43.Name, .sl false 2 (List.map GParam.enc e43.Params), vi e43.Res, vi e43.Body, vi e43.Ret] 4), (78, .t (vi e43.Ret)), (79, .al (.slot 4) 0 [] none), (80, .ref (.box 1) 1 []), (81, .t (.sl false 5 (List.map (GFn.enc false) p1.Fns))), (82, .t (vi i24)), (83, .rop [vs e43.Name, .sl false 2 (List.map GParam.enc e43.Params), vi e43.Res, vi e43.Body, vi e43.Ret] 0), (84, .rop [vs e43.Name, .sl false 2 (List.map GParam.enc e43.Params), vi e43.Res, vi e43.Body, vi e43.Ret] 4), (85, .t (vi e43.Ret)), (86, .ref (.slot 4) 0 [(e43.Ret.toNat, 0)]), (87, .t (vi e44)), (88, .t (vi (IntKind.wrap .i64 (e44 + 1000))))] [[], [], [1], [], [1, 2, 3], [1, 2, 3, 4], [1, 2, 3, 4, 5], [], [], [8], [], [8, 9, 10], [8, 9, 10, 11], [8, 9, 10, 11, 12], [7, 8, 9, 10, 11, 12, 13], [7, 8, 9, 10, 11, 12, 13, 14], [7, 8, 9, 10, 11, 12, 13, 14, 15], [0, 1, 2, 3, 4, 5, 6, 7, 8, 9, 10, 11, 12, 13, 14, 15, 16], [0, 1, 2, 3, 4, 5, 6, 7, 8, 9, 10, 11, 12, 13, 14, 15, 16, 17]] (by simp) (by simp) (by simp [look]) rfl rfl rfl ?_ fun K hK => ?_
       ·refine ⟨?_, ?_, ?_, ?_, ?_, ?_, ?_, ?_, ?_, ?_, ?_, ?_, ?_, ?_, ?_, ?_, ?_, trivial⟩
        all_goals (intro τ hbx hb hd hf K hK; try simp [vsAt] at hd; simp [vsAt] at hf; first | (refine wC rfl fun K' hK' => ?_; simp [hN', hbx, hb, hd, hf, he43a, he43b, he43c, he43d, he44a, he44b, he44c, he44d, he44j]; exact hK' _ (wN (hK _ (by simp [vsAt, hbx, he43a, he43b, he43c, he43d, he44a, he44b, he44c, he44d, he44j])))))
       refine wC rfl fun K hK => ?_; simp [hN', he43a, he43b, he43c, he43d, he44a, he44b, he44c, he44d, he44j]; refine hK _ ?_; clear hK
       obtain ⟨l45, hl45, h25⟩ := bZ h25
       have hl45f : (List.map vi l38).set e43.Ret.toNat (vi (IntKind.wrap .i64 (e44 + 1000))) = List.map vi l45 := set_map (f := vi) hl45
       try simp only [Int.toNat_natCast] at hl45f
       refine wC rfl fun K hK => ?_; simp [hN', he43a, he43b, he43c, he43d, he44a, he44b, he44c, he44d, he44j, hl45f]; refine hK _ ?_; clear hK
       refine wN (hK _ ?_); clear hK
       show SWp E C _ _ _
       refine SWp.reg rfl (hPB _ rfl) fun K hK => ?_
       iterate 3 (refine wC rfl fun K hK => ?_; simp [hN']; refine hK _ ?_; clear hK)
       refine wN (hK _ ?_); clear hK
       cases h25
       exact ⟨_, [], rfl, by simp [hN']⟩
      ·refine SWp.cF' (b := decide (e39.Ret ≥ 0)) (by simp) hb41 ?_
       refine SWp.skip ?_
       show SWp E C _ _ _
       refine SWp.reg rfl (hPB _ rfl) fun K hK => ?_
       iterate 3 (refine wC rfl fun K hK => ?_; simp [hN']; refine hK _ ?_; clear hK)
       refine wN (hK _ ?_); clear hK
       cases h25
       exact ⟨_, [], rfl, by simp [hN']⟩
    ·refine SWp.cF' (b := decide (i24 < (p1.Fns.length : Int))) (by simp) hb29 ?_
     refine SWp.exit ?_
     have h46 := congrArg some (ho26 _ (Option.some.inj h25).symm)
     cases h46
     exact hK21 _ _ [] rfl (by simp [hN'])
   subst hv
   obtain ⟨used47, hv⟩ : ∃ y, y = v := ⟨_, rfl⟩
   subst hv
   try dsimp only at h ⊢
   obtain ⟨j50, hj48, h⟩ := bS h
   refine SWp.seqC [] [] (fun v : Unit => ⟨[], []⟩) (fun v => j50 = Sum.inl v) (fun v hv => ?_) fun K49 hK49 => ?_
   rotate_left
   ·refine SWp.sR rfl (hPB _ rfl) fun K hK => ?_
    refine wC rfl fun K hK => ?_; simp [hN']; refine hK _ ?_; clear hK
    refine wN (hK _ ?_); clear hK
    refine SWp.block ?_
    refine SWp.loopO [] [4, 6] [] (fun v : Int => ⟨[(4, .t (.sl true 1 (List.map vi used47))), (6, .t (vi v))], []⟩) (spec_ProgramOk_l2 used47) _ 0 hj48 (by simp [hN']) ?_
    intro g s54 h52 ho53
    obtain ⟨i51, hg⟩ : ∃ y, y = g := ⟨_, rfl⟩
    subst hg
    simp only [spec_ProgramOk_l2] at h52
    try dsimp only
    refine SWp.seq ?_
    refine SWp.sR rfl (hPB _ rfl) fun K hK => ?_
    iterate 4 (refine wC rfl fun K hK => ?_; simp [hN']; refine hK _ ?_; clear hK)
    refine wN (hK _ ?_); clear hK
    rcases ite_or h52 with ⟨hb55, h52⟩ | ⟨hb56, h52⟩
    ·refine SWp.cT' (b := decide (i51 < (used47.length : Int))) (by simp) hb55 ?_
     refine SWp.skip ?_
     show SWp E C _ _ _
     refine SWp.seq ?_
     refine SWp.block ?_
     obtain ⟨v62, hj57, h52⟩ := bS h52
     refine SWp.seqRC rfl (hPB _ rfl) [4, 6, 107] [] (fun _ : Unit => ⟨[(4, .t (.sl true 1 (List.map vi used47))), (6, .t (vi i51)), (107, .t (vb v62))], []⟩) (fun _ => True) (fun _ _ => ?_) fun K58 hK58 => ?_
     rotate_left
     ·refine wC rfl fun K hK => ?_; simp [hN']; refine hK _ ?_; clear hK
      refine wC rfl fun K hK => ?_; simp [hN']; refine hK _ ?_; clear hK
      obtain ⟨e59, he59, hj57⟩ := bS hj57
      obtain ⟨he59a, he59b, he59c, he59d⟩ := gS he59
      iterate 4 (refine wC rfl fun K hK => ?_; simp [hN', he59a, he59b, he59c, he59d]; refine hK _ ?_; clear hK)
      rcases ite_or hj57 with ⟨hb60, hj57⟩ | ⟨hb61, hj57⟩
      ·have hb60s := hb60
       try simp at hb60s
       iterate 6 (refine wC rfl fun K hK => ?_; simp [hN', he59a, he59b, he59c, he59d, hb60, hb60s]; refine hK _ ?_; clear hK)
       refine wN ?_
       cases hj57
       exact hK58 _ () [] trivial (by simp [hN', he59a, he59b, he59c, he59d, hb60, hb60s])
      ·have hb61s := hb61
       try simp at hb61s
       iterate 5 (refine wO fun K hK => ?_; simp [hN', he59a, he59b, he59c, he59d, hb61, hb61s]; refine hK _ ?_; clear hK)
       refine wC rfl fun K hK => ?_; simp [hN', he59a, he59b, he59c, he59d, hb61, hb61s]; refine hK _ ?_; clear hK
       refine wN ?_
       cases hj57
       exact hK58 _ () [] trivial (by simp [hN', he59a, he59b, he59c, he59d, hb61, hb61s])
     rcases ite_or h52 with ⟨hb63, h52⟩ | ⟨hb64, h52⟩
     ·refine SWp.cT' (b := v62) (by simp) hb63 ?_
      refine SWp.sR rfl (hPB _ rfl) fun K hK => ?_
      refine wC rfl fun K hK => ?_; simp [hN']; refine hK _ ?_; clear hK
      refine wN (hK _ ?_); clear hK
      have h65 := congrArg some (ho53 _ (Option.some.inj h52).symm)
      cases h65
      try dsimp only at h
      cases h
      refine SWp.ret ?_
      simp [thenS, iB, res34]
     ·refine SWp.cF' (b := v62) (by simp) hb64 ?_
      refine SWp.skip ?_
      show SWp E C _ _ _
      refine SWp.reg rfl (hPB _ rfl) fun K hK => ?_
      iterate 3 (refine wC rfl fun K hK => ?_; simp [hN']; refine hK _ ?_; clear hK)
      refine wN (hK _ ?_); clear hK
      cases h52
      exact ⟨_, [], rfl, by simp [hN']⟩
    ·refine SWp.cF' (b := decide (i51 < (used47.length : Int))) (by simp) hb56 ?_
     refine SWp.exit ?_
     have h66 := congrArg some (ho53 _ (Option.some.inj h52).symm)
     cases h66
     exact hK49 _ _ [] rfl (by simp [hN'])
   subst hv
   obtain ⟨⟩ := v
   try dsimp only at h ⊢
   refine SWp.sR rfl (hPB _ rfl) fun K hK => ?_
   refine wC rfl fun K hK => ?_; simp [hN']; refine hK _ ?_; clear hK
   refine wN (hK _ ?_); clear hK
   cases h
   refine SWp.ret ?_
   simp [thenS, iB, res34]
theorem res66 : Tryz.f66.results.toList = [.tmp 2] := rfl
theorem ent66 : Enters E.P 66 := eO Tryz.func66 (by simp [Tryz.f66]) rfl
theorem spec_l04Nodes_ok (nodes1 : List GNode) {r0 : List GNode} (h : spec_l04Nodes nodes1 = some r0) : Ok E 66 [.val (.sl false 4 (List.map (GNode.enc false) nodes1))] [.sl true 4 (List.map (GNode.enc true) r0)] [] := by
 refine oB (fn := Tryz.f66) Tryz.func66 rfl (by simp [Tryz.f66]) fun C hN hP => ?_
 have u : ∀ l, pinK [] l = true → pinB C.pin l = true := pO (by rw [hP]; rfl)
 have y : C.N = 27 := hN
 clear hN
 unfold spec_l04Nodes at h
 refine SWp.sR rfl (u _ rfl) fun K q => ?_
 refine wC rfl fun K q => ?_; simp [y]; refine q _ ?_; clear q
 refine wN (q _ ?_); clear q
 refine SWp.sR rfl (u _ rfl) fun K q => ?_
 iterate 2 (refine wC rfl fun K q => ?_; simp [y]; refine q _ ?_; clear q)
 refine wN (q _ ?_); clear q
 obtain ⟨out16, hj2, h⟩ := bS h
 refine SWp.seqC [3] [] (fun _ : Unit => ⟨[(3, .t (.sl true 4 (List.map (GNode.enc true) out16)))], []⟩) (fun _ => True) (fun _ _ => ?_) fun K3 hK3 => ?_
 rotate_left
 ·refine SWp.sR rfl (u _ rfl) fun K q => ?_
  refine wC rfl fun K q => ?_; simp [y]; refine q _ ?_; clear q
  refine wN (q _ ?_); clear q
  refine SWp.block ?_
  refine SWp.loopO [] [0, 3, 4] [] (fun v : (List GNode) × Int => ⟨[(0, .t (.sl false 4 (List.map (GNode.enc false) nodes1))), (3, .t (.sl true 4 (List.map (GNode.enc true) v.1))), (4, .t (vi v.2))], []⟩) (spec_l04Nodes_l1 nodes1) _ ([], 0) hj2 (by simp [y]) ?_
  intro g s9 h7 ho8
  obtain ⟨out5, i6⟩ := g
  simp only [spec_l04Nodes_l1] at h7
  try dsimp only
  refine SWp.seq ?_
  refine SWp.sR rfl (u _ rfl) fun K q => ?_
  iterate 4 (refine wC rfl fun K q => ?_; simp [y]; refine q _ ?_; clear q)
  refine wN (q _ ?_); clear q
  rcases ite_or h7 with ⟨hb10, h7⟩ | ⟨hb11, h7⟩
  ·refine SWp.cT' (b := decide (i6 < (nodes1.length : Int))) (by simp) hb10 ?_
   refine SWp.skip ?_
   show SWp E C _ _ _
   refine SWp.seq ?_
   refine SWp.block ?_
   refine SWp.sR rfl (u _ rfl) fun K q => ?_
   iterate 2 (refine wC rfl fun K q => ?_; simp [y]; refine q _ ?_; clear q)
   obtain ⟨e12, he12, h7⟩ := bS h7
   obtain ⟨he12a, he12b, he12c, he12d⟩ := gS he12
   iterate 4 (refine wC rfl fun K q => ?_; simp [y, he12a, he12b, he12c, he12d]; refine q _ ?_; clear q)
   refine wN (q _ ?_); clear q
   refine SWp.sR rfl (u _ rfl) fun K q => ?_
   iterate 3 (refine wC rfl fun K q => ?_; simp [y]; refine q _ ?_; clear q)
   obtain ⟨l13, hl13, h7⟩ := bS h7
   obtain ⟨hl13a, hl13b, hl13d⟩ := aS hl13
   simp [eSl] at hl13a hl13b
   iterate 3 (refine wC rfl fun K q => ?_; simp [y, hl13a, hl13b]; refine q _ ?_; clear q)
   refine wN (q _ ?_); clear q
   refine SWp.reg rfl (u _ rfl) fun K q => ?_
   iterate 3 (refine wC rfl fun K q => ?_; simp [y]; refine q _ ?_; clear q)
   obtain ⟨l14, hl14, h7⟩ := bS h7
   obtain ⟨hl14a, hl14b, hl14d⟩ := aS hl14
   have hl14f : List.map (GNode.enc true) out5 ++ List.map (GNode.enc true) [(⟨e12.Kind, e12.Num, e12.Name, e12.Kids⟩ : GNode)] = List.map (GNode.enc true) l14 := app_map (f := (GNode.enc true)) hl14d
   simp [eSl, GNode.enc] at hl14a hl14b hl14f
   iterate 2 (refine wC rfl fun K q => ?_; simp [y, hl14a, hl14b, hl14f]; refine q _ ?_; clear q)
   refine wN (q _ ?_); clear q
   show SWp E C _ _ _
   refine SWp.reg rfl (u _ rfl) fun K q => ?_
   iterate 3 (refine wC rfl fun K q => ?_; simp [y]; refine q _ ?_; clear q)
   refine wN (q _ ?_); clear q
   cases h7
   exact ⟨_, [], rfl, by simp [y]⟩
  ·refine SWp.cF' (b := decide (i6 < (nodes1.length : Int))) (by simp) hb11 ?_
   refine SWp.exit ?_
   have h15 := congrArg some (ho8 _ (Option.some.inj h7).symm)
   cases h15
   exact hK3 _ () [] trivial (by simp [y])
 refine SWp.sR rfl (u _ rfl) fun K q => ?_
 iterate 2 (refine wC rfl fun K q => ?_; simp [y]; refine q _ ?_; clear q)
 refine wN (q _ ?_); clear q
 cases h
 refine SWp.ret ?_
 simp [thenS, iB, res66]
theorem res35 : Tryz.f35.results.toList = [.cell 2 31] := rfl
theorem ent35 : Enters E.P 35 := eO Tryz.func35 (by simp [Tryz.f35]) rfl
theorem spec_l04Copy_ok (p1 : GProgram) {r0 : GProgram} (h : spec_l04Copy p1 = some r0) : Ok E 35 [.val (GProgram.enc false p1)] [GProgram.enc true r0] [] := by
 refine oB (fn := Tryz.f35) Tryz.func35 rfl (by simp [Tryz.f35]) fun C hN hP => ?_
 have u : ∀ l, pinK [] l = true → pinB C.pin l = true := pO (by rw [hP]; rfl)
 have y : C.N = 34 := hN
 clear hN
 unfold spec_l04Copy at h
 refine SWp.sR rfl (u _ rfl) fun K q => ?_
 iterate 2 (refine wC rfl fun K q => ?_; simp [y]; refine q _ ?_; clear q)
 refine wN (q _ ?_); clear q
 refine SWp.sR rfl (u _ rfl) fun K q => ?_
 iterate 2 (refine wC rfl fun K q => ?_; simp [y]; refine q _ ?_; clear q)
 obtain ⟨r2, hc3, h⟩ := bS h
 refine wL [(.take, .tmp 7)] rfl rfl ent66 (spec_l04Nodes_ok _ hc3) fun K q => ?_; simp [y]; refine q _ ?_; clear q
 iterate 3 (refine wC rfl fun K q => ?_; simp [y]; refine q _ ?_; clear q)
 refine wN (q _ ?_); clear q
 obtain ⟨v18, hj4, h⟩ := bS h
 refine SWp.seqC [2, 3] [2, 3] (fun _ : Unit => ⟨[(2, .ref (.box 2) 0 []), (3, .ref (.box 3) 0 [])], [(2, [.sl true 4 [], .sl true 5 []]), (3, [.sl true 4 (List.map (GNode.enc true) v18.Nodes), .sl true 5 (List.map (GFn.enc true) v18.Fns)])]⟩) (fun _ => True) (fun _ _ => ?_) fun K5 hK5 => ?_
 rotate_left
 ·refine SWp.sR rfl (u _ rfl) fun K q => ?_
  refine wC rfl fun K q => ?_; simp [y]; refine q _ ?_; clear q
  refine wN (q _ ?_); clear q
  refine SWp.block ?_
  refine SWp.loopO [] [1, 2, 3, 4] [1, 2, 3] (fun v : Int × GProgram => ⟨[(1, .ref (.box 1) 0 []), (2, .ref (.box 2) 0 []), (3, .ref (.box 3) 0 []), (4, .t (vi v.1))], [(1, [.sl false 4 (List.map (GNode.enc false) p1.Nodes), .sl false 5 (List.map (GFn.enc false) p1.Fns)]), (2, [.sl true 4 [], .sl true 5 []]), (3, [.sl true 4 (List.map (GNode.enc true) v.2.Nodes), .sl true 5 (List.map (GFn.enc true) v.2.Fns)])]⟩) (spec_l04Copy_l1 p1) _ (0, (⟨r2, []⟩ : GProgram)) hj4 (by simp [y]) ?_
  intro g s11 h9 ho10
  obtain ⟨i7, v8⟩ := g
  simp only [spec_l04Copy_l1] at h9
  try dsimp only
  refine SWp.seq ?_
  refine SWp.sR rfl (u _ rfl) fun K q => ?_
  iterate 5 (refine wC rfl fun K q => ?_; simp [y]; refine q _ ?_; clear q)
  refine wN (q _ ?_); clear q
  rcases ite_or h9 with ⟨hb12, h9⟩ | ⟨hb13, h9⟩
  ·refine SWp.cT' (b := decide (i7 < (p1.Fns.length : Int))) (by simp) hb12 ?_
   refine SWp.skip ?_
   show SWp E C _ _ _
   refine SWp.seq ?_
   refine SWp.block ?_
   refine SWp.sR rfl (u _ rfl) fun K q => ?_
   iterate 3 (refine wC rfl fun K q => ?_; simp [y]; refine q _ ?_; clear q)
   obtain ⟨e14, he14, h9⟩ := bS h9
   obtain ⟨he14a, he14b, he14c, he14d⟩ := gS he14
   iterate 4 (refine wC rfl fun K q => ?_; simp [y, he14a, he14b, he14c, he14d]; refine q _ ?_; clear q)
   refine wN (q _ ?_); clear q
   refine SWp.sR rfl (u _ rfl) fun K q => ?_
   iterate 3 (refine wC rfl fun K q => ?_; simp [y]; refine q _ ?_; clear q)
   obtain ⟨l15, hl15, h9⟩ := bS h9
   obtain ⟨hl15a, hl15b, hl15d⟩ := aS hl15
   simp [eSl, GParam.enc] at hl15a hl15b
   iterate 3 (refine wC rfl fun K q => ?_; simp [y, hl15a, hl15b]; refine q _ ?_; clear q)
   refine wN (q _ ?_); clear q
   refine SWp.reg rfl (u _ rfl) fun K q => ?_
   iterate 4 (refine wC rfl fun K q => ?_; simp [y]; refine q _ ?_; clear q)
   obtain ⟨l16, hl16, h9⟩ := bS h9
   obtain ⟨hl16a, hl16b, hl16d⟩ := aS hl16
   have hl16f : List.map (GFn.enc true) v8.Fns ++ List.map (GFn.enc true) [(⟨e14.Name, e14.Params, e14.Res, e14.Body, e14.Ret⟩ : GFn)] = List.map (GFn.enc true) l16 := app_map (f := (GFn.enc true)) hl16d
   simp [eSl, GFn.enc] at hl16a hl16b hl16f
   iterate 3 (refine wC rfl fun K q => ?_; simp [y, hl16a, hl16b, hl16f]; refine q _ ?_; clear q)
   refine wN (q _ ?_); clear q
   show SWp E C _ _ _
   refine SWp.reg rfl (u _ rfl) fun K q => ?_
   iterate 3 (refine wC rfl fun K q => ?_; simp [y]; refine q _ ?_; clear q)
   refine wN (q _ ?_); clear q
   cases h9
   exact ⟨_, [], rfl, by simp [y]⟩
  ·refine SWp.cF' (b := decide (i7 < (p1.Fns.length : Int))) (by simp) hb13 ?_
   refine SWp.exit ?_
   have h17 := congrArg some (ho10 _ (Option.some.inj h9).symm)
   cases h17
   exact hK5 _ () [] trivial (by simp [y])
 refine SWp.sR rfl (u _ rfl) fun K q => ?_
 iterate 2 (refine wC rfl fun K q => ?_; simp [y]; refine q _ ?_; clear q)
 refine wN (q _ ?_); clear q
 cases h
 refine SWp.ret ?_
 simp [thenS, iB, res35]
theorem res37 : Tryz.f37.results.toList = [.tmp 4, .tmp 5] := rfl
theorem ent37 : Enters E.P 37 := eO Tryz.func37 (by simp [Tryz.f37]) rfl
theorem spec_l26Const_b_ok (rec_spec_l26Const : (List GNode) → Int → Option (Int × Bool)) (hrec_spec_l26Const : ∀ (a0 : List GNode) (a1 : Int) {r0 : Int} {r1 : Bool}, rec_spec_l26Const a0 a1 = some (r0, r1) → Ok E 37 [.val (.sl false 4 (List.map (GNode.enc false) a0)), .val (vi a1)] [vi r0, vb r1] []) (nodes1 : List GNode) (k2 : Int) {r0 : Int} {r1 : Bool} (h : spec_l26Const_b rec_spec_l26Const nodes1 k2 = some (r0, r1)) : Ok E 37 [.val (.sl false 4 (List.map (GNode.enc false) nodes1)), .val (vi k2)] [vi r0, vb r1] [] := by
 refine oB (fn := Tryz.f37) Tryz.func37 rfl (by simp [Tryz.f37]) fun C hN hP => ?_
 have u : ∀ l, pinK [] l = true → pinB C.pin l = true := pO (by rw [hP]; rfl)
 have y : C.N = 79 := hN
 clear hN
 unfold spec_l26Const_b at h
 refine SWp.sR rfl (u _ rfl) fun K q => ?_
 iterate 2 (refine wC rfl fun K q => ?_; simp [y]; refine q _ ?_; clear q)
 refine wN (q _ ?_); clear q
 refine SWp.sR rfl (u _ rfl) fun K q => ?_
 iterate 2 (refine wC rfl fun K q => ?_; simp [y]; refine q _ ?_; clear q)
 obtain ⟨e3, he3, h⟩ := bS h
 obtain ⟨he3a, he3b, he3c, he3d⟩ := gS he3
 iterate 4 (refine wC rfl fun K q => ?_; simp [y, he3a, he3b, he3c, he3d]; refine q _ ?_; clear q)
 refine wN (q _ ?_); clear q
 refine SWp.seq ?_
 refine SWp.sR rfl (u _ rfl) fun K q => ?_
 iterate 2 (refine wC rfl fun K q => ?_; simp [y]; refine q _ ?_; clear q)
 refine wN (q _ ?_); clear q
 refine SWp.block ?_
 refine SWp.sR rfl (u _ rfl) fun K q => ?_
 iterate 2 (refine wC rfl fun K q => ?_; simp [y]; refine q _ ?_; clear q)
 refine wN (q _ ?_); clear q
 rcases ite_or h with ⟨hb4, h⟩ | ⟨hb5, h⟩
 ·refine SWp.cT' (b := e3.Kind == 1) (by simp) hb4 ?_
  refine SWp.sR rfl (u _ rfl) fun K q => ?_
  iterate 4 (refine wC rfl fun K q => ?_; simp [y]; refine q _ ?_; clear q)
  refine wN (q _ ?_); clear q
  cases h
  refine SWp.ret ?_
  simp [thenS, iB, res37]
 ·refine SWp.cF' (b := e3.Kind == 1) (by simp) hb5 ?_
  obtain ⟨v13, hj6, h⟩ := bS h
  refine SWp.seqC [0, 6, 22] [6] (fun _ : Unit => ⟨[(0, .t (.sl false 4 (List.map (GNode.enc false) nodes1))), (6, .ref (.box 6) 0 []), (22, .t (vb v13))], [(6, [vi e3.Kind, vi e3.Num, vs e3.Name, .sl false 1 (List.map vi e3.Kids)])]⟩) (fun _ => True) (fun _ _ => ?_) fun K7 hK7 => ?_
  rotate_left
  ·refine SWp.sR rfl (u _ rfl) fun K q => ?_
   iterate 2 (refine wC rfl fun K q => ?_; simp [y]; refine q _ ?_; clear q)
   refine wN (q _ ?_); clear q
   rcases ite_or hj6 with ⟨hb9, hj6⟩ | ⟨hb10, hj6⟩
   ·refine SWp.cT' (b := e3.Kind == 9) (by simp) hb9 ?_
    refine SWp.skip ?_
    cases hj6
    exact hK7 _ () [] trivial (by simp [y])
   ·refine SWp.cF' (b := e3.Kind == 9) (by simp) hb10 ?_
    refine SWp.sR rfl (u _ rfl) fun K q => ?_
    iterate 2 (refine wC rfl fun K q => ?_; simp [y]; refine q _ ?_; clear q)
    refine wN (q _ ?_); clear q
    rcases ite_or hj6 with ⟨hb11, hj6⟩ | ⟨hb12, hj6⟩
    ·refine SWp.cT' (b := e3.Kind == 10) (by simp) hb11 ?_
     refine SWp.skip ?_
     cases hj6
     exact hK7 _ () [] trivial (by simp [y])
    ·refine SWp.cF' (b := e3.Kind == 10) (by simp) hb12 ?_
     refine SWp.reg rfl (u _ rfl) fun K q => ?_
     iterate 2 (refine wC rfl fun K q => ?_; simp [y]; refine q _ ?_; clear q)
     refine wN (q _ ?_); clear q
     cases hj6
     exact hK7 _ () [] trivial (by simp [y])
  rcases ite_or h with ⟨hb14, h⟩ | ⟨hb15, h⟩
  ·refine SWp.cT' (b := v13) (by simp) hb14 ?_
   refine SWp.sR rfl (u _ rfl) fun K q => ?_
   iterate 3 (refine wC rfl fun K q => ?_; simp [y]; refine q _ ?_; clear q)
   obtain ⟨e16, he16, h⟩ := bS h
   obtain ⟨he16a, he16b, he16c, he16d⟩ := gS he16
   have he16e : 0 < e3.Kids.length := by omega
   have he16g : e3.Kids[0]? = some e16 := he16c
   have he16i : e3.Kids[0] = e16 := he16d he16e
   iterate 2 (refine wC rfl fun K q => ?_; simp [y, he16a, he16b, he16c, he16d, he16e, he16g, he16i]; refine q _ ?_; clear q)
   obtain ⟨⟨r17, r18⟩, hc19, h⟩ := bS h
   try dsimp only at h
   refine wL [(.take, .tmp 27), (.take, .tmp 31)] rfl rfl ent37 (hrec_spec_l26Const _ _ hc19) fun K q => ?_; simp [y, he16a, he16b, he16c, he16d, he16e, he16g, he16i]; refine q _ ?_; clear q
   iterate 5 (refine wC rfl fun K q => ?_; simp [y, he16a, he16b, he16c, he16d, he16e, he16g, he16i]; refine q _ ?_; clear q)
   refine wN (q _ ?_); clear q
   refine SWp.sR rfl (u _ rfl) fun K q => ?_
   iterate 3 (refine wC rfl fun K q => ?_; simp [y]; refine q _ ?_; clear q)
   obtain ⟨e20, he20, h⟩ := bS h
   obtain ⟨he20a, he20b, he20c, he20d⟩ := gS he20
   have he20e : 1 < e3.Kids.length := by omega
   have he20g : e3.Kids[1]? = some e20 := he20c
   have he20i : e3.Kids[1] = e20 := he20d he20e
   iterate 2 (refine wC rfl fun K q => ?_; simp [y, he20a, he20b, he20c, he20d, he20e, he20g, he20i]; refine q _ ?_; clear q)
   obtain ⟨⟨r21, r22⟩, hc23, h⟩ := bS h
   try dsimp only at h
   refine wL [(.take, .tmp 36), (.take, .tmp 40)] rfl rfl ent37 (hrec_spec_l26Const _ _ hc23) fun K q => ?_; simp [y, he20a, he20b, he20c, he20d, he20e, he20g, he20i]; refine q _ ?_; clear q
   iterate 5 (refine wC rfl fun K q => ?_; simp [y, he20a, he20b, he20c, he20d, he20e, he20g, he20i]; refine q _ ?_; clear q)
   refine wN (q _ ?_); clear q
   refine SWp.seq ?_
   obtain ⟨v28, hj24, h⟩ := bS h
   refine SWp.seqRC rfl (u _ rfl) [6, 7, 9, 49] [6] (fun _ : Unit => ⟨[(6, .ref (.box 6) 0 []), (7, .t (vi r17)), (9, .t (vi r21)), (49, .t (vb v28))], [(6, [vi e3.Kind, vi e3.Num, vs e3.Name, .sl false 1 (List.map vi e3.Kids)])]⟩) (fun _ => True) (fun _ _ => ?_) fun K25 hK25 => ?_
   rotate_left
   ·refine wC rfl fun K q => ?_; simp [y]; refine q _ ?_; clear q
    iterate 2 (refine wC rfl fun K q => ?_; simp [y]; refine q _ ?_; clear q)
    rcases ite_or hj24 with ⟨hb26, hj24⟩ | ⟨hb27, hj24⟩
    ·have hb26s := hb26
     try simp at hb26s
     iterate 2 (refine wO fun K q => ?_; simp [y, hb26, hb26s]; refine q _ ?_; clear q)
     refine wC rfl fun K q => ?_; simp [y, hb26, hb26s]; refine q _ ?_; clear q
     refine wN ?_
     cases hj24
     exact hK25 _ () [] trivial (by simp [y, hb26, hb26s])
    ·have hb27s := hb27
     try simp at hb27s
     iterate 3 (refine wC rfl fun K q => ?_; simp [y, hb27, hb27s]; refine q _ ?_; clear q)
     refine wN ?_
     cases hj24
     exact hK25 _ () [] trivial (by simp [y, hb27, hb27s])
   rcases ite_or h with ⟨hb29, h⟩ | ⟨hb30, h⟩
   ·refine SWp.cT' (b := v28) (by simp) hb29 ?_
    refine SWp.sR rfl (u _ rfl) fun K q => ?_
    iterate 2 (refine wC rfl fun K q => ?_; simp [y]; refine q _ ?_; clear q)
    refine wN (q _ ?_); clear q
    cases h
    refine SWp.ret ?_
    simp [thenS, iB, res37]
   ·refine SWp.cF' (b := v28) (by simp) hb30 ?_
    refine SWp.skip ?_
    show SWp E C _ _ _
    refine SWp.sR rfl (u _ rfl) fun K q => ?_
    refine wC rfl fun K q => ?_; simp [y]; refine q _ ?_; clear q
    refine wN (q _ ?_); clear q
    obtain ⟨n48, hj31, h⟩ := bS h
    refine SWp.seqC [11] [] (fun _ : Unit => ⟨[(11, .t (vi n48))], []⟩) (fun _ => True) (fun _ _ => ?_) fun K32 hK32 => ?_
    rotate_left
    ·refine SWp.block ?_
     refine SWp.sR rfl (u _ rfl) fun K q => ?_
     iterate 4 (refine wC rfl fun K q => ?_; simp [y]; refine q _ ?_; clear q)
     refine wN (q _ ?_); clear q
     rcases ite_or hj31 with ⟨hb34, hj31⟩ | ⟨hb35, hj31⟩
     ·refine SWp.cT' (b := e3.Kind == 9) (by simp) hb34 ?_
      refine SWp.reg rfl (u _ rfl) fun K q => ?_
      iterate 4 (refine wC rfl fun K q => ?_; simp [y]; refine q _ ?_; clear q)
      refine wN (q _ ?_); clear q
      cases hj31
      exact hK32 _ () [] trivial (by simp [y])
     ·refine SWp.cF' (b := e3.Kind == 9) (by simp) hb35 ?_
      obtain ⟨v45, hj36, hj31⟩ := bS hj31
      refine SWp.seqRC rfl (u _ rfl) [11, 57] [] (fun _ : Unit => ⟨[(11, .t (vi 0)), (57, .t (vb v45))], []⟩) (fun _ => True) (fun _ _ => ?_) fun K37 hK37 => ?_
      rotate_left
      ·refine wC rfl fun K q => ?_; simp [y]; refine q _ ?_; clear q
       iterate 3 (refine wC rfl fun K q => ?_; simp [y]; refine q _ ?_; clear q)
       rcases ite_or hj36 with ⟨hb38, hj36⟩ | ⟨hb39, hj36⟩
       ·have hb38s := hb38
        try simp at hb38s
        iterate 5 (refine wC rfl fun K q => ?_; simp [y, hb38, hb38s]; refine q _ ?_; clear q)
        rcases ite_or hj36 with ⟨hb40, hj36⟩ | ⟨hb41, hj36⟩
        ·have hb40s := hb40
         try simp at hb40s
         iterate 8 (refine wO fun K q => ?_; simp [y, hb38, hb38s, hb40, hb40s]; refine q _ ?_; clear q)
         iterate 2 (refine wC rfl fun K q => ?_; simp [y, hb38, hb38s, hb40, hb40s]; refine q _ ?_; clear q)
         refine wN ?_
         cases hj36
         exact hK37 _ () [] trivial (by simp [y, hb38, hb38s, hb40, hb40s])
        ·have hb41s := hb41
         try simp at hb41s
         iterate 4 (refine wC rfl fun K q => ?_; simp [y, hb38, hb38s, hb41, hb41s]; refine q _ ?_; clear q)
         have hk42 : (e3.Kind == 11) = false := by simp [hb38, hb38s, hb41, hb41s]
         iterate 3 (refine wO fun K q => ?_; simp [y, hb38, hb38s, hb41, hb41s, hk42]; refine q _ ?_; clear q)
         iterate 3 (refine wC rfl fun K q => ?_; simp [y, hb38, hb38s, hb41, hb41s, hk42]; refine q _ ?_; clear q)
         refine wN ?_
         cases hj36
         exact hK37 _ () [] trivial (by simp [y, hb38, hb38s, hb41, hb41s, hk42])
       ·have hb39s := hb39
        try simp at hb39s
        iterate 3 (refine wO fun K q => ?_; simp [y, hb39, hb39s]; refine q _ ?_; clear q)
        iterate 6 (refine wC rfl fun K q => ?_; simp [y, hb39, hb39s]; refine q _ ?_; clear q)
        rcases ite_or hj36 with ⟨hb43, hj36⟩ | ⟨hb44, hj36⟩
        ·have hb43s := hb43
         try simp at hb43s
         iterate 6 (refine wC rfl fun K q => ?_; simp [y, hb39, hb39s, hb43, hb43s]; refine q _ ?_; clear q)
         refine wN ?_
         cases hj36
         exact hK37 _ () [] trivial (by simp [y, hb39, hb39s, hb43, hb43s])
        ·have hb44s := hb44
         try simp at hb44s
         iterate 3 (refine wO fun K q => ?_; simp [y, hb39, hb39s, hb44, hb44s]; refine q _ ?_; clear q)
         iterate 3 (refine wC rfl fun K q => ?_; simp [y, hb39, hb39s, hb44, hb44s]; refine q _ ?_; clear q)
         refine wN ?_
         cases hj36
         exact hK37 _ () [] trivial (by simp [y, hb39, hb39s, hb44, hb44s])
      rcases ite_or hj31 with ⟨hb46, hj31⟩ | ⟨hb47, hj31⟩
      ·refine SWp.cT' (b := v45) (by simp) hb46 ?_
       refine SWp.reg rfl (u _ rfl) fun K q => ?_
       refine wC rfl fun K q => ?_; simp [y]; refine q _ ?_; clear q
       refine wN (q _ ?_); clear q
       cases hj31
       exact hK32 _ () [] trivial (by simp [y])
      ·refine SWp.cF' (b := v45) (by simp) hb47 ?_
       refine SWp.skip ?_
       cases hj31
       exact hK32 _ () [] trivial (by simp [y])
    refine SWp.seq ?_
    refine SWp.sR rfl (u _ rfl) fun K q => ?_
    iterate 2 (refine wC rfl fun K q => ?_; simp [y]; refine q _ ?_; clear q)
    refine wN (q _ ?_); clear q
    rcases ite_or h with ⟨hb49, h⟩ | ⟨hb50, h⟩
    ·refine SWp.cT' (b := decide (n48 > 1000000000)) (by simp) hb49 ?_
     refine SWp.sR rfl (u _ rfl) fun K q => ?_
     iterate 2 (refine wC rfl fun K q => ?_; simp [y]; refine q _ ?_; clear q)
     refine wN (q _ ?_); clear q
     cases h
     refine SWp.ret ?_
     simp [thenS, iB, res37]
    ·refine SWp.cF' (b := decide (n48 > 1000000000)) (by simp) hb50 ?_
     refine SWp.skip ?_
     show SWp E C _ _ _
     refine SWp.sR rfl (u _ rfl) fun K q => ?_
     iterate 3 (refine wC rfl fun K q => ?_; simp [y]; refine q _ ?_; clear q)
     refine wN (q _ ?_); clear q
     cases h
     refine SWp.ret ?_
     simp [thenS, iB, res37]
  ·refine SWp.cF' (b := v13) (by simp) hb15 ?_
   refine SWp.skip ?_
   show SWp E C _ _ _
   refine SWp.sR rfl (u _ rfl) fun K q => ?_
   iterate 2 (refine wC rfl fun K q => ?_; simp [y]; refine q _ ?_; clear q)
   refine wN (q _ ?_); clear q
   cases h
   refine SWp.ret ?_
   simp [thenS, iB, res37]
theorem spec_l26Const_rec_ok : ∀ n : Nat, (∀ (a0 : List GNode) (a1 : Int) {r0 : Int} {r1 : Bool}, (spec_l26Const_rec n) a0 a1 = some (r0, r1) → Ok E 37 [.val (.sl false 4 (List.map (GNode.enc false) a0)), .val (vi a1)] [vi r0, vb r1] [])
 | 0 => (by intros; rename_i h; cases h)
 | n + 1 => spec_l26Const_b_ok (spec_l26Const_rec n) (spec_l26Const_rec_ok n)
theorem spec_l26Const_ok : ∀ (a0 : List GNode) (a1 : Int) {r0 : Int} {r1 : Bool}, spec_l26Const a0 a1 = some (r0, r1) → Ok E 37 [.val (.sl false 4 (List.map (GNode.enc false) a0)), .val (vi a1)] [vi r0, vb r1] [] := (spec_l26Const_rec_ok recFuel)
theorem res36 : Tryz.f36.results.toList = [.tmp 2] := rfl
theorem ent36 : Enters E.P 36 := eO Tryz.func36 (by simp [Tryz.f36]) rfl
theorem spec_l26Tops_ok (p1 : GProgram) {r0 : List Int} (h : spec_l26Tops p1 = some r0) : Ok E 36 [.val (GProgram.enc false p1)] [.sl true 1 (List.map vi r0)] [] := by
 refine oB (fn := Tryz.f36) Tryz.func36 rfl (by simp [Tryz.f36]) fun C hN hP => ?_
 have u : ∀ l, pinK [] l = true → pinB C.pin l = true := pO (by rw [hP]; rfl)
 have y : C.N = 81 := hN
 clear hN
 unfold spec_l26Tops at h
 refine SWp.sR rfl (u _ rfl) fun K q => ?_
 iterate 2 (refine wC rfl fun K q => ?_; simp [y]; refine q _ ?_; clear q)
 refine wN (q _ ?_); clear q
 refine SWp.sR rfl (u _ rfl) fun K q => ?_
 iterate 3 (refine wC rfl fun K q => ?_; simp [y]; refine q _ ?_; clear q)
 obtain ⟨l2, hl2, h⟩ := bS h
 obtain ⟨hl2a, hl2b, hl2c, hl2d⟩ := mS hl2
 have hl2f : List.replicate (p1.Nodes.length : Int).toNat (vb false) = List.map vb l2 := rep_map (f := vb) hl2d
 try simp only [Int.toNat_natCast] at hl2f
 iterate 2 (refine wC rfl fun K q => ?_; simp [y, hl2a, hl2b, hl2c, hl2f]; refine q _ ?_; clear q)
 refine wN (q _ ?_); clear q
 refine SWp.sR rfl (u _ rfl) fun K q => ?_
 iterate 2 (refine wC rfl fun K q => ?_; simp [y]; refine q _ ?_; clear q)
 refine wN (q _ ?_); clear q
 obtain ⟨out62, hj3, h⟩ := bS h
 refine SWp.seqC [4] [] (fun _ : Unit => ⟨[(4, .t (.sl true 1 (List.map vi out62)))], []⟩) (fun _ => True) (fun _ _ => ?_) fun K4 hK4 => ?_
 rotate_left
 ·refine SWp.sR rfl (u _ rfl) fun K q => ?_
  iterate 5 (refine wC rfl fun K q => ?_; simp [y]; refine q _ ?_; clear q)
  refine wN (q _ ?_); clear q
  refine SWp.block ?_
  refine SWp.loopO [] [1, 3, 4, 5] [1] (fun v : (List Bool) × (List Int) × Int => ⟨[(1, .ref (.box 1) 0 []), (3, .t (.sl true 1 (List.map vb v.1))), (4, .t (.sl true 1 (List.map vi v.2.1))), (5, .t (vi v.2.2))], [(1, [.sl false 4 (List.map (GNode.enc false) p1.Nodes), .sl false 5 (List.map (GFn.enc false) p1.Fns)])]⟩) (spec_l26Tops_l1 p1) _ (l2, [], IntKind.wrap .i64 ((p1.Nodes.length : Int) - 1)) hj3 (by simp [y]) ?_
  intro g s11 h9 ho10
  obtain ⟨in6, out7, i8⟩ := g
  simp only [spec_l26Tops_l1] at h9
  try dsimp only
  refine SWp.seq ?_
  refine SWp.sR rfl (u _ rfl) fun K q => ?_
  iterate 2 (refine wC rfl fun K q => ?_; simp [y]; refine q _ ?_; clear q)
  refine wN (q _ ?_); clear q
  rcases ite_or h9 with ⟨hb12, h9⟩ | ⟨hb13, h9⟩
  ·refine SWp.cT' (b := decide (i8 ≥ 0)) (by simp) hb12 ?_
   refine SWp.skip ?_
   show SWp E C _ _ _
   obtain ⟨⟨in59, out60⟩, hj14, h9⟩ := bS h9
   try dsimp only at h9
   refine SWp.seqC [1, 3, 4, 5] [1] (fun _ : Unit => ⟨[(1, .ref (.box 1) 0 []), (3, .t (.sl true 1 (List.map vb in59))), (4, .t (.sl true 1 (List.map vi out60))), (5, .t (vi i8))], [(1, [.sl false 4 (List.map (GNode.enc false) p1.Nodes), .sl false 5 (List.map (GFn.enc false) p1.Fns)])]⟩) (fun _ => True) (fun _ _ => ?_) fun K15 hK15 => ?_
   rotate_left
   ·refine SWp.block ?_
    refine SWp.sR rfl (u _ rfl) fun K q => ?_
    iterate 3 (refine wC rfl fun K q => ?_; simp [y]; refine q _ ?_; clear q)
    obtain ⟨⟨r17, r18⟩, hc19, hj14⟩ := bS hj14
    try dsimp only at hj14
    refine wL [(.take, .tmp 24), (.take, .tmp 25)] rfl rfl ent37 (spec_l26Const_ok _ _ hc19) fun K q => ?_; simp [y]; refine q _ ?_; clear q
    iterate 5 (refine wC rfl fun K q => ?_; simp [y]; refine q _ ?_; clear q)
    refine wN (q _ ?_); clear q
    obtain ⟨ok25, hj20, hj14⟩ := bS hj14
    refine SWp.seqRC rfl (u _ rfl) [1, 3, 4, 5, 7] [1] (fun _ : Unit => ⟨[(1, .ref (.box 1) 0 []), (3, .t (.sl true 1 (List.map vb in6))), (4, .t (.sl true 1 (List.map vi out7))), (5, .t (vi i8)), (7, .t (vb ok25))], [(1, [.sl false 4 (List.map (GNode.enc false) p1.Nodes), .sl false 5 (List.map (GFn.enc false) p1.Fns)])]⟩) (fun _ => True) (fun _ _ => ?_) fun K21 hK21 => ?_
    rotate_left
    ·refine wC rfl fun K q => ?_; simp [y]; refine q _ ?_; clear q
     refine wC rfl fun K q => ?_; simp [y]; refine q _ ?_; clear q
     rcases ite_or hj20 with ⟨hb22, hj20⟩ | ⟨hb23, hj20⟩
     ·have hb22s := hb22
      try simp at hb22s
      iterate 3 (refine wC rfl fun K q => ?_; simp [y, hb22, hb22s]; refine q _ ?_; clear q)
      obtain ⟨e24, he24, hj20⟩ := bS hj20
      obtain ⟨he24a, he24b, he24c, he24d⟩ := gS he24
      iterate 6 (refine wC rfl fun K q => ?_; simp [y, hb22, hb22s, he24a, he24b, he24c, he24d]; refine q _ ?_; clear q)
      refine wN ?_
      cases hj20
      exact hK21 _ () [] trivial (by simp [y, hb22, hb22s, he24a, he24b, he24c, he24d])
     ·have hb23s := hb23
      try simp at hb23s
      iterate 7 (refine wO fun K q => ?_; simp [y, hb23, hb23s]; refine q _ ?_; clear q)
      iterate 2 (refine wC rfl fun K q => ?_; simp [y, hb23, hb23s]; refine q _ ?_; clear q)
      refine wN ?_
      cases hj20
      exact hK21 _ () [] trivial (by simp [y, hb23, hb23s])
    obtain ⟨out38, hj26, hj14⟩ := bS hj14
    refine SWp.seqC [1, 3, 4, 5, 7] [1] (fun _ : Unit => ⟨[(1, .ref (.box 1) 0 []), (3, .t (.sl true 1 (List.map vb in6))), (4, .t (.sl true 1 (List.map vi out38))), (5, .t (vi i8)), (7, .t (vb ok25))], [(1, [.sl false 4 (List.map (GNode.enc false) p1.Nodes), .sl false 5 (List.map (GFn.enc false) p1.Fns)])]⟩) (fun _ => True) (fun _ _ => ?_) fun K27 hK27 => ?_
    rotate_left
    ·obtain ⟨v34, hj29, hj26⟩ := bS hj26
     refine SWp.seqRC rfl (u _ rfl) [1, 3, 4, 5, 7, 46] [1] (fun _ : Unit => ⟨[(1, .ref (.box 1) 0 []), (3, .t (.sl true 1 (List.map vb in6))), (4, .t (.sl true 1 (List.map vi out7))), (5, .t (vi i8)), (7, .t (vb ok25)), (46, .t (vb v34))], [(1, [.sl false 4 (List.map (GNode.enc false) p1.Nodes), .sl false 5 (List.map (GFn.enc false) p1.Fns)])]⟩) (fun _ => True) (fun _ _ => ?_) fun K30 hK30 => ?_
     rotate_left
     ·refine wC rfl fun K q => ?_; simp [y]; refine q _ ?_; clear q
      refine wC rfl fun K q => ?_; simp [y]; refine q _ ?_; clear q
      rcases ite_or hj29 with ⟨hb31, hj29⟩ | ⟨hb32, hj29⟩
      ·have hb31s := hb31
       try simp at hb31s
       iterate 2 (refine wC rfl fun K q => ?_; simp [y, hb31, hb31s]; refine q _ ?_; clear q)
       obtain ⟨e33, he33, hj29⟩ := bS hj29
       obtain ⟨he33a, he33b, he33c, he33d⟩ := gS he33
       iterate 4 (refine wC rfl fun K q => ?_; simp [y, hb31, hb31s, he33a, he33b, he33c, he33d]; refine q _ ?_; clear q)
       refine wN ?_
       cases hj29
       exact hK30 _ () [] trivial (by simp [y, hb31, hb31s, he33a, he33b, he33c, he33d])
      ·have hb32s := hb32
       try simp at hb32s
       iterate 5 (refine wO fun K q => ?_; simp [y, hb32, hb32s]; refine q _ ?_; clear q)
       refine wC rfl fun K q => ?_; simp [y, hb32, hb32s]; refine q _ ?_; clear q
       refine wN ?_
       cases hj29
       exact hK30 _ () [] trivial (by simp [y, hb32, hb32s])
     rcases ite_or hj26 with ⟨hb35, hj26⟩ | ⟨hb36, hj26⟩
     ·refine SWp.cT' (b := v34) (by simp) hb35 ?_
      refine SWp.reg rfl (u _ rfl) fun K q => ?_
      iterate 3 (refine wC rfl fun K q => ?_; simp [y]; refine q _ ?_; clear q)
      obtain ⟨l37, hl37, hj26⟩ := bS hj26
      obtain ⟨hl37a, hl37b, hl37d⟩ := aS hl37
      have hl37f : List.map vi out7 ++ List.map vi [i8] = List.map vi l37 := app_map (f := vi) hl37d
      simp [eSl] at hl37a hl37b hl37f
      iterate 2 (refine wC rfl fun K q => ?_; simp [y, hl37a, hl37b, hl37f]; refine q _ ?_; clear q)
      refine wN (q _ ?_); clear q
      cases hj26
      exact hK27 _ () [] trivial (by simp [y])
     ·refine SWp.cF' (b := v34) (by simp) hb36 ?_
      refine SWp.skip ?_
      cases hj26
      exact hK27 _ () [] trivial (by simp [y])
    refine SWp.sR rfl (u _ rfl) fun K q => ?_
    refine wC rfl fun K q => ?_; simp [y]; refine q _ ?_; clear q
    refine wN (q _ ?_); clear q
    refine SWp.block ?_
    refine SWp.loopO [] [1, 3, 4, 5, 7, 8] [1] (fun v : (List Bool) × Int => ⟨[(1, .ref (.box 1) 0 []), (3, .t (.sl true 1 (List.map vb v.1))), (4, .t (.sl true 1 (List.map vi out38))), (5, .t (vi i8)), (7, .t (vb ok25)), (8, .t (vi v.2))], [(1, [.sl false 4 (List.map (GNode.enc false) p1.Nodes), .sl false 5 (List.map (GFn.enc false) p1.Fns)])]⟩) (spec_l26Tops_l2 p1 i8 ok25 out38) _ (in6, 0) hj14 (by simp [y]) ?_
    intro g s43 h41 ho42
    obtain ⟨in39, k40⟩ := g
    simp only [spec_l26Tops_l2] at h41
    try dsimp only
    refine SWp.seq ?_
    refine SWp.sR rfl (u _ rfl) fun K q => ?_
    iterate 4 (refine wC rfl fun K q => ?_; simp [y]; refine q _ ?_; clear q)
    obtain ⟨e44, he44, h41⟩ := bS h41
    obtain ⟨he44a, he44b, he44c, he44d⟩ := gS he44
    iterate 5 (refine wC rfl fun K q => ?_; simp [y, he44a, he44b, he44c, he44d]; refine q _ ?_; clear q)
    refine wN (q _ ?_); clear q
    rcases ite_or h41 with ⟨hb45, h41⟩ | ⟨hb46, h41⟩
    ·refine SWp.cT' (b := decide (k40 < (e44.Kids.length : Int))) (by simp) hb45 ?_
     refine SWp.skip ?_
     show SWp E C _ _ _
     refine SWp.seq ?_
     refine SWp.block ?_
     obtain ⟨e49, he49, h41⟩ := bS h41
     obtain ⟨he49a, he49b, he49c, he49d⟩ := gS he49
     obtain ⟨e50, he50, h41⟩ := bS h41
     obtain ⟨he50a, he50b, he50c, he50d⟩ := gS he50
     rcases ite_or h41 with ⟨hb51, h41⟩ | ⟨hb52, h41⟩
     ·have hb51s := hb51
      try simp at hb51s
      refine SWp.dT rfl (u _ rfl) [(62, .al (.slot 3) 0 [] none), (63, .ref (.box 1) 0 []), (64, .t (.sl false 4 (List.map (GNode.enc false) p1.Nodes))), (65, .t (vi i8)), (66, .rop [vi e49.Kind, vi e49.Num, vs e49.Name, .sl false 1 (List.map vi e49.Kids)] 0), (67, .rop [vi e49.Kind, vi e49.Num, vs e49.Name, .sl false 1 (List.map vi e49.Kids)] 3), (68, .t (.sl false 1 (List.map vi e49.Kids))), (69, .t (vi k40)), (70, .rop [vi e50] 0), (71, .t (vi e50)), (72, .t (vb ok25)), (73, .t (vb ok25)), (74, .tup []), (75, .tup []), (76, .tup []), (77, .tup []), (78, .t (vb true))] [[], [], [1], [], [1, 2, 3], [1, 2, 3, 4], [1, 2, 3, 4, 5], [], [1, 2, 3, 4, 5, 6, 7], [1, 2, 3, 4, 5, 6, 7, 8], [], [10], [10, 11], [10, 11], [10, 11, 12, 13], [10, 11, 12, 13, 14], [10, 11, 12, 13, 14, 15], [0, 1, 2, 3, 4, 5, 6, 7, 8, 9, 10, 11, 12, 13, 14, 15, 16], [0, 1, 2, 3, 4, 5, 6, 7, 8, 9, 10, 11, 12, 13, 14, 15, 16, 17]] (by simp) (by simp) (by simp [look]) rfl rfl rfl ?_ fun K q => ?_
      ·refine ⟨?_, ?_, ?_, ?_, ?_, ?_, ?_, ?_, ?_, ?_, ?_, ?_, ?_, ?_, ?_, ?_, ?_, trivial⟩
       all_goals (intro τ hbx hb hd hf K q; try simp [vsAt] at hd; simp [vsAt] at hf; first | (refine wC rfl fun K' q' => ?_; simp [y, hbx, hb, hd, hf, he49a, he49b, he49c, he49d, he50a, he50b, he50c, he50d, hb51, hb51s]; exact q' _ (wN (q _ (by simp [vsAt, hbx, he49a, he49b, he49c, he49d, he50a, he50b, he50c, he50d, hb51, hb51s])))) | (refine wO fun K' q' => ?_; simp [y, hbx, hb, hd, hf, he49a, he49b, he49c, he49d, he50a, he50b, he50c, he50d, hb51, hb51s]; exact q' _ (wN (q _ (by simp [vsAt, hbx, he49a, he49b, he49c, he49d, he50a, he50b, he50c, he50d, hb51, hb51s])))))
      obtain ⟨e53, he53, h41⟩ := bS h41
      obtain ⟨he53a, he53b, he53c, he53d⟩ := gS he53
      refine wC rfl fun K q => ?_; simp [y, he49a, he49b, he49c, he49d, he50a, he50b, he50c, he50d, hb51, hb51s, he53a, he53b, he53c, he53d]; refine q _ ?_; clear q
      obtain ⟨l54, hl54, h41⟩ := bZ h41
      have hl54f : (List.map vb in39).set e50.toNat (vb true) = List.map vb l54 := set_map (f := vb) hl54
      try simp only [Int.toNat_natCast] at hl54f
      refine wC rfl fun K q => ?_; simp [y, he49a, he49b, he49c, he49d, he50a, he50b, he50c, he50d, hb51, hb51s, he53a, he53b, he53c, he53d, hl54f]; refine q _ ?_; clear q
      refine wN (q _ ?_); clear q
      show SWp E C _ _ _
      refine SWp.reg rfl (u _ rfl) fun K q => ?_
      iterate 3 (refine wC rfl fun K q => ?_; simp [y]; refine q _ ?_; clear q)
      refine wN (q _ ?_); clear q
      cases h41
      exact ⟨_, [], rfl, by first | (simp [y]; done) | simp [y, hb51s]⟩
     ·have hb52s := hb52
      try simp at hb52s
      obtain ⟨e55, he55, h41⟩ := bS h41
      obtain ⟨he55a, he55b, he55c, he55d⟩ := gS he55
      refine SWp.dT rfl (u _ rfl) [(62, .al (.slot 3) 0 [] none), (63, .ref (.box 1) 0 []), (64, .t (.sl false 4 (List.map (GNode.enc false) p1.Nodes))), (65, .t (vi i8)), (66, .rop [vi e49.Kind, vi e49.Num, vs e49.Name, .sl false 1 (List.map vi e49.Kids)] 0), (67, .rop [vi e49.Kind, vi e49.Num, vs e49.Name, .sl false 1 (List.map vi e49.Kids)] 3), (68, .t (.sl false 1 (List.map vi e49.Kids))), (69, .t (vi k40)), (70, .rop [vi e50] 0), (71, .t (vi e50)), (72, .t (vb ok25)), (73, .t (vb ok25)), (74, .al (.slot 3) 0 [] none), (75, .t (vi i8)), (76, .ref (.slot 3) 0 [(i8.toNat, 0)]), (77, .t (vb e55)), (78, .t (vb e55))] [[], [], [1], [], [1, 2, 3], [1, 2, 3, 4], [1, 2, 3, 4, 5], [], [1, 2, 3, 4, 5, 6, 7], [1, 2, 3, 4, 5, 6, 7, 8], [], [10], [10, 11], [10, 11], [10, 11, 12, 13], [10, 11, 12, 13, 14], [10, 11, 12, 13, 14, 15], [0, 1, 2, 3, 4, 5, 6, 7, 8, 9, 10, 11, 12, 13, 14, 15, 16], [0, 1, 2, 3, 4, 5, 6, 7, 8, 9, 10, 11, 12, 13, 14, 15, 16, 17]] (by simp) (by simp) (by simp [look]) rfl rfl rfl ?_ fun K q => ?_
      ·refine ⟨?_, ?_, ?_, ?_, ?_, ?_, ?_, ?_, ?_, ?_, ?_, ?_, ?_, ?_, ?_, ?_, ?_, trivial⟩
       all_goals (intro τ hbx hb hd hf K q; try simp [vsAt] at hd; simp [vsAt] at hf; first | (refine wC rfl fun K' q' => ?_; simp [y, hbx, hb, hd, hf, he49a, he49b, he49c, he49d, he50a, he50b, he50c, he50d, hb52, hb52s, he55a, he55b, he55c, he55d]; exact q' _ (wN (q _ (by simp [vsAt, hbx, he49a, he49b, he49c, he49d, he50a, he50b, he50c, he50d, hb52, hb52s, he55a, he55b, he55c, he55d])))))
      obtain ⟨e56, he56, h41⟩ := bS h41
      obtain ⟨he56a, he56b, he56c, he56d⟩ := gS he56
      refine wC rfl fun K q => ?_; simp [y, he49a, he49b, he49c, he49d, he50a, he50b, he50c, he50d, hb52, hb52s, he55a, he55b, he55c, he55d, he56a, he56b, he56c, he56d]; refine q _ ?_; clear q
      obtain ⟨l57, hl57, h41⟩ := bZ h41
      have hl57f : (List.map vb in39).set e50.toNat (vb e55) = List.map vb l57 := set_map (f := vb) hl57
      try simp only [Int.toNat_natCast] at hl57f
      refine wC rfl fun K q => ?_; simp [y, he49a, he49b, he49c, he49d, he50a, he50b, he50c, he50d, hb52, hb52s, he55a, he55b, he55c, he55d, he56a, he56b, he56c, he56d, hl57f]; refine q _ ?_; clear q
      refine wN (q _ ?_); clear q
      show SWp E C _ _ _
      refine SWp.reg rfl (u _ rfl) fun K q => ?_
      iterate 3 (refine wC rfl fun K q => ?_; simp [y]; refine q _ ?_; clear q)
      refine wN (q _ ?_); clear q
      cases h41
      exact ⟨_, [], rfl, by first | (simp [y]; done) | simp [y, hb52s]⟩
    ·refine SWp.cF' (b := decide (k40 < (e44.Kids.length : Int))) (by simp) hb46 ?_
     refine SWp.exit ?_
     have h58 := congrArg some (ho42 _ (Option.some.inj h41).symm)
     cases h58
     exact hK15 _ () [] trivial (by simp [y])
   refine SWp.reg rfl (u _ rfl) fun K q => ?_
   iterate 3 (refine wC rfl fun K q => ?_; simp [y]; refine q _ ?_; clear q)
   refine wN (q _ ?_); clear q
   cases h9
   exact ⟨_, [], rfl, by simp [y]⟩
  ·refine SWp.cF' (b := decide (i8 ≥ 0)) (by simp) hb13 ?_
   refine SWp.exit ?_
   have h61 := congrArg some (ho10 _ (Option.some.inj h9).symm)
   cases h61
   exact hK4 _ () [] trivial (by simp [y])
 refine SWp.sR rfl (u _ rfl) fun K q => ?_
 iterate 2 (refine wC rfl fun K q => ?_; simp [y]; refine q _ ?_; clear q)
 refine wN (q _ ?_); clear q
 cases h
 refine SWp.ret ?_
 simp [thenS, iB, res36]
theorem res67 : Tryz.f67.results.toList = [.tmp 6] := rfl
theorem ent67 : Enters E.P 67 := eO Tryz.func67 (by simp [Tryz.f67]) rfl
theorem spec_l04Pack_put_b_ok (rec_spec_l04Pack_put : Gl04Pack → Int → Int → Option (Int × Gl04Pack)) (hrec_spec_l04Pack_put : ∀ (a0 : Gl04Pack) (a1 : Int) (a2 : Int) {r0 : Int} {q0 : Gl04Pack}, rec_spec_l04Pack_put a0 a1 a2 = some (r0, q0) → Ok E 67 [.ptr [.sl false 4 (List.map (GNode.enc false) a0.from_), .sl true 4 (List.map (GNode.enc true) a0.to_), vb a0.bad], .val (vi a1), .val (vi a2)] [vi r0] [[.sl false 4 (List.map (GNode.enc false) q0.from_), .sl true 4 (List.map (GNode.enc true) q0.to_), vb q0.bad]]) (x1 : Gl04Pack) (k2 : Int) (deep3 : Int) {r0 : Int} {q0 : Gl04Pack} (h : spec_l04Pack_put_b rec_spec_l04Pack_put x1 k2 deep3 = some (r0, q0)) : Ok E 67 [.ptr [.sl false 4 (List.map (GNode.enc false) x1.from_), .sl true 4 (List.map (GNode.enc true) x1.to_), vb x1.bad], .val (vi k2), .val (vi deep3)] [vi r0] [[.sl false 4 (List.map (GNode.enc false) q0.from_), .sl true 4 (List.map (GNode.enc true) q0.to_), vb q0.bad]] := by
 refine oB (fn := Tryz.f67) Tryz.func67 rfl (by simp [Tryz.f67]) fun C hN hP => ?_
 have u : ∀ l, pinK [] l = true → pinB C.pin l = true := pO (by rw [hP]; rfl)
 have y : C.N = 122 := hN
 clear hN
 unfold spec_l04Pack_put_b at h
 refine SWp.sR rfl (u _ rfl) fun K q => ?_
 refine wC rfl fun K q => ?_; simp [y]; refine q _ ?_; clear q
 refine wN (q _ ?_); clear q
 refine SWp.seq ?_
 obtain ⟨v14, hj4, h⟩ := bS h
 refine SWp.seqRC rfl (u _ rfl) [0, 1, 2, 36] [122] (fun _ : Unit => ⟨[(0, .ref (.box 122) 0 []), (1, .t (vi k2)), (2, .t (vi deep3)), (36, .t (vb v14))], [(122, [.sl false 4 (List.map (GNode.enc false) x1.from_), .sl true 4 (List.map (GNode.enc true) x1.to_), vb x1.bad])]⟩) (fun _ => True) (fun _ _ => ?_) fun K5 hK5 => ?_
 rotate_left
 ·refine wC rfl fun K q => ?_; simp [y]; refine q _ ?_; clear q
  iterate 4 (refine wC rfl fun K q => ?_; simp [y]; refine q _ ?_; clear q)
  rcases ite_or hj4 with ⟨hb6, hj4⟩ | ⟨hb7, hj4⟩
  ·have hb6s := hb6
   try simp at hb6s
   iterate 2 (refine wO fun K q => ?_; simp [y, hb6, hb6s]; refine q _ ?_; clear q)
   iterate 2 (refine wC rfl fun K q => ?_; simp [y, hb6, hb6s]; refine q _ ?_; clear q)
   iterate 9 (refine wO fun K q => ?_; simp [y, hb6, hb6s]; refine q _ ?_; clear q)
   iterate 2 (refine wC rfl fun K q => ?_; simp [y, hb6, hb6s]; refine q _ ?_; clear q)
   iterate 6 (refine wO fun K q => ?_; simp [y, hb6, hb6s]; refine q _ ?_; clear q)
   refine wC rfl fun K q => ?_; simp [y, hb6, hb6s]; refine q _ ?_; clear q
   refine wN ?_
   cases hj4
   exact hK5 _ () [] trivial (by simp [y, hb6, hb6s])
  ·have hb7s := hb7
   try simp at hb7s
   iterate 4 (refine wC rfl fun K q => ?_; simp [y, hb7, hb7s]; refine q _ ?_; clear q)
   rcases ite_or hj4 with ⟨hb8, hj4⟩ | ⟨hb9, hj4⟩
   ·have hb8s := hb8
    try simp at hb8s
    iterate 9 (refine wO fun K q => ?_; simp [y, hb7, hb7s, hb8, hb8s]; refine q _ ?_; clear q)
    iterate 2 (refine wC rfl fun K q => ?_; simp [y, hb7, hb7s, hb8, hb8s]; refine q _ ?_; clear q)
    iterate 6 (refine wO fun K q => ?_; simp [y, hb7, hb7s, hb8, hb8s]; refine q _ ?_; clear q)
    refine wC rfl fun K q => ?_; simp [y, hb7, hb7s, hb8, hb8s]; refine q _ ?_; clear q
    refine wN ?_
    cases hj4
    exact hK5 _ () [] trivial (by simp [y, hb7, hb7s, hb8, hb8s])
   ·have hb9s := hb9
    try simp at hb9s
    iterate 7 (refine wC rfl fun K q => ?_; simp [y, hb7, hb7s, hb9, hb9s]; refine q _ ?_; clear q)
    obtain ⟨r10, hc11, hj4⟩ := bS hj4
    refine wL [(.take, .tmp 19), (.take, .const (.int .i64 0)), (.take, .tmp 25)] rfl rfl ent51 (spec_l01In_ok _ _ _ hc11) fun K q => ?_; simp [y, hb7, hb7s, hb9, hb9s]; refine q _ ?_; clear q
    iterate 3 (refine wC rfl fun K q => ?_; simp [y, hb7, hb7s, hb9, hb9s]; refine q _ ?_; clear q)
    rcases ite_or hj4 with ⟨hb12, hj4⟩ | ⟨hb13, hj4⟩
    ·have hb12s := hb12
     try simp at hb12s
     iterate 6 (refine wO fun K q => ?_; simp [y, hb7, hb7s, hb9, hb9s, hb12, hb12s]; refine q _ ?_; clear q)
     refine wC rfl fun K q => ?_; simp [y, hb7, hb7s, hb9, hb9s, hb12, hb12s]; refine q _ ?_; clear q
     refine wN ?_
     cases hj4
     exact hK5 _ () [] trivial (by simp [y, hb7, hb7s, hb9, hb9s, hb12, hb12s])
    ·have hb13s := hb13
     try simp at hb13s
     iterate 7 (refine wC rfl fun K q => ?_; simp [y, hb7, hb7s, hb9, hb9s, hb13, hb13s]; refine q _ ?_; clear q)
     refine wN ?_
     cases hj4
     exact hK5 _ () [] trivial (by simp [y, hb7, hb7s, hb9, hb9s, hb13, hb13s])
 rcases ite_or h with ⟨hb15, h⟩ | ⟨hb16, h⟩
 ·refine SWp.cT' (b := v14) (by simp) hb15 ?_
  refine SWp.sR rfl (u _ rfl) fun K q => ?_
  iterate 4 (refine wC rfl fun K q => ?_; simp [y]; refine q _ ?_; clear q)
  refine wN (q _ ?_); clear q
  refine SWp.sR rfl (u _ rfl) fun K q => ?_
  refine wC rfl fun K q => ?_; simp [y]; refine q _ ?_; clear q
  refine wN (q _ ?_); clear q
  cases h
  refine SWp.ret ?_
  simp [thenS, iB, res67]
 ·refine SWp.cF' (b := v14) (by simp) hb16 ?_
  refine SWp.skip ?_
  show SWp E C _ _ _
  refine SWp.seq ?_
  obtain ⟨e17, he17, h⟩ := bS h
  obtain ⟨he17a, he17b, he17c, he17d⟩ := gS he17
  refine SWp.drawY rfl (u _ rfl) [(40, .ref (.box 122) 0 []), (41, .ref (.box 122) 0 []), (42, .ref (.box 122) 0 []), (43, .t (.sl false 4 (List.map (GNode.enc false) x1.from_))), (44, .t (vi k2)), (45, .rop [vi e17.Kind, vi e17.Num, vs e17.Name, .sl false 1 (List.map vi e17.Kids)] 0), (46, .rop [vi e17.Kind, vi e17.Num, vs e17.Name, .sl false 1 (List.map vi e17.Kids)] 0), (47, .t (vi e17.Kind)), (48, .ref (.box 122) 0 []), (49, .ref (.box 122) 0 []), (50, .ref (.box 122) 0 []), (51, .t (.sl false 4 (List.map (GNode.enc false) x1.from_))), (52, .t (vi k2)), (53, .rop [vi e17.Kind, vi e17.Num, vs e17.Name, .sl false 1 (List.map vi e17.Kids)] 0), (54, .rop [vi e17.Kind, vi e17.Num, vs e17.Name, .sl false 1 (List.map vi e17.Kids)] 1), (55, .t (vi e17.Num)), (56, .ref (.box 122) 0 []), (57, .ref (.box 122) 0 []), (58, .ref (.box 122) 0 []), (59, .t (.sl false 4 (List.map (GNode.enc false) x1.from_))), (60, .t (vi k2)), (61, .rop [vi e17.Kind, vi e17.Num, vs e17.Name, .sl false 1 (List.map vi e17.Kids)] 0), (62, .rop [vi e17.Kind, vi e17.Num, vs e17.Name, .sl false 1 (List.map vi e17.Kids)] 2), (63, .t (vs e17.Name)), (64, .t (.agg [vi e17.Kind, vi e17.Num, vs e17.Name, .sl true 1 []])), (7, .ref (.box 7) 0 [])] [[], [], [], [], [], [], [], [], [], [], [], [], [], [], [], [], [], [], [], [], [], [], [], [], [], [(7, [vi 0, vi 0, vs ByteArray.empty, .sl true 1 []])]] [[], [0], [0, 1], [0, 1, 2], [], [0, 1, 2, 3, 4], [0, 1, 2, 3, 4, 5], [0, 1, 2, 3, 4, 5, 6], [], [8], [8, 9], [8, 9, 10], [], [8, 9, 10, 11, 12], [8, 9, 10, 11, 12, 13], [8, 9, 10, 11, 12, 13, 14], [], [16], [16, 17], [16, 17, 18], [], [16, 17, 18, 19, 20], [16, 17, 18, 19, 20, 21], [16, 17, 18, 19, 20, 21, 22], [0, 1, 2, 3, 4, 5, 6, 7, 8, 9, 10, 11, 12, 13, 14, 15, 16, 17, 18, 19, 20, 21, 22, 23], [], [0, 1, 2, 3, 4, 5, 6, 7, 8, 9, 10, 11, 12, 13, 14, 15, 16, 17, 18, 19, 20, 21, 22, 23, 24, 25]] rfl (by simp) (by simp) (by simp [look]) rfl rfl rfl ?_ fun K q => ?_
  ·refine ⟨?_, ?_, ?_, ?_, ?_, ?_, ?_, ?_, ?_, ?_, ?_, ?_, ?_, ?_, ?_, ?_, ?_, ?_, ?_, ?_, ?_, ?_, ?_, ?_, ?_, ?_, trivial⟩
   ·intro τ D hbx hb hd hf d0 g1 g2 hT
    cases d25 : D 25 <;> (intro K q; try simp [vsAt] at hd; simp [vsAt] at hf; simp [famX, putX, d0, d25] at hbx; refine wC rfl fun K' q' => ?_; simp [y, hbx, hb, hd, hf, he17a, he17b, he17c, he17d]; exact q' _ (wN (q _ (by simp [vsAt, famX, putX, upd1, hbx, d0, d25, he17a, he17b, he17c, he17d]))))
   ·intro τ D hbx hb hd hf d1 g1 g2 hT
    cases d25 : D 25 <;> (intro K q; try simp [vsAt] at hd; simp [vsAt] at hf; simp [famX, putX, d1, d25] at hbx; refine wC rfl fun K' q' => ?_; simp [y, hbx, hb, hd, hf, he17a, he17b, he17c, he17d]; exact q' _ (wN (q _ (by simp [vsAt, famX, putX, upd1, hbx, d1, d25, he17a, he17b, he17c, he17d]))))
   ·intro τ D hbx hb hd hf d2 g1 g2 hT
    cases d25 : D 25 <;> (intro K q; try simp [vsAt] at hd; simp [vsAt] at hf; simp [famX, putX, d2, d25] at hbx; refine wC rfl fun K' q' => ?_; simp [y, hbx, hb, hd, hf, he17a, he17b, he17c, he17d]; exact q' _ (wN (q _ (by simp [vsAt, famX, putX, upd1, hbx, d2, d25, he17a, he17b, he17c, he17d]))))
   ·intro τ D hbx hb hd hf d3 g1 g2 hT
    cases d25 : D 25 <;> (intro K q; try simp [vsAt] at hd; simp [vsAt] at hf; simp [famX, putX, d3, d25] at hbx; refine wC rfl fun K' q' => ?_; simp [y, hbx, hb, hd, hf, he17a, he17b, he17c, he17d]; exact q' _ (wN (q _ (by simp [vsAt, famX, putX, upd1, hbx, d3, d25, he17a, he17b, he17c, he17d]))))
   ·intro τ D hbx hb hd hf d4 g1 g2 hT
    cases d25 : D 25 <;> (intro K q; try simp [vsAt] at hd; simp [vsAt] at hf; simp [famX, putX, d4, d25] at hbx; refine wC rfl fun K' q' => ?_; simp [y, hbx, hb, hd, hf, he17a, he17b, he17c, he17d]; exact q' _ (wN (q _ (by simp [vsAt, famX, putX, upd1, hbx, d4, d25, he17a, he17b, he17c, he17d]))))
   ·intro τ D hbx hb hd hf d5 g1 g2 hT
    cases d25 : D 25 <;> (intro K q; try simp [vsAt] at hd; simp [vsAt] at hf; simp [famX, putX, d5, d25] at hbx; refine wC rfl fun K' q' => ?_; simp [y, hbx, hb, hd, hf, he17a, he17b, he17c, he17d]; exact q' _ (wN (q _ (by simp [vsAt, famX, putX, upd1, hbx, d5, d25, he17a, he17b, he17c, he17d]))))
   ·intro τ D hbx hb hd hf d6 g1 g2 hT
    cases d25 : D 25 <;> (intro K q; try simp [vsAt] at hd; simp [vsAt] at hf; simp [famX, putX, d6, d25] at hbx; refine wC rfl fun K' q' => ?_; simp [y, hbx, hb, hd, hf, he17a, he17b, he17c, he17d]; exact q' _ (wN (q _ (by simp [vsAt, famX, putX, upd1, hbx, d6, d25, he17a, he17b, he17c, he17d]))))
   ·intro τ D hbx hb hd hf d7 g1 g2 hT
    cases d25 : D 25 <;> (intro K q; try simp [vsAt] at hd; simp [vsAt] at hf; simp [famX, putX, d7, d25] at hbx; refine wC rfl fun K' q' => ?_; simp [y, hbx, hb, hd, hf, he17a, he17b, he17c, he17d]; exact q' _ (wN (q _ (by simp [vsAt, famX, putX, upd1, hbx, d7, d25, he17a, he17b, he17c, he17d]))))
   ·intro τ D hbx hb hd hf d8 g1 g2 hT
    cases d25 : D 25 <;> (intro K q; try simp [vsAt] at hd; simp [vsAt] at hf; simp [famX, putX, d8, d25] at hbx; refine wC rfl fun K' q' => ?_; simp [y, hbx, hb, hd, hf, he17a, he17b, he17c, he17d]; exact q' _ (wN (q _ (by simp [vsAt, famX, putX, upd1, hbx, d8, d25, he17a, he17b, he17c, he17d]))))
   ·intro τ D hbx hb hd hf d9 g1 g2 hT
    cases d25 : D 25 <;> (intro K q; try simp [vsAt] at hd; simp [vsAt] at hf; simp [famX, putX, d9, d25] at hbx; refine wC rfl fun K' q' => ?_; simp [y, hbx, hb, hd, hf, he17a, he17b, he17c, he17d]; exact q' _ (wN (q _ (by simp [vsAt, famX, putX, upd1, hbx, d9, d25, he17a, he17b, he17c, he17d]))))
   ·intro τ D hbx hb hd hf d10 g1 g2 hT
    cases d25 : D 25 <;> (intro K q; try simp [vsAt] at hd; simp [vsAt] at hf; simp [famX, putX, d10, d25] at hbx; refine wC rfl fun K' q' => ?_; simp [y, hbx, hb, hd, hf, he17a, he17b, he17c, he17d]; exact q' _ (wN (q _ (by simp [vsAt, famX, putX, upd1, hbx, d10, d25, he17a, he17b, he17c, he17d]))))
   ·intro τ D hbx hb hd hf d11 g1 g2 hT
    cases d25 : D 25 <;> (intro K q; try simp [vsAt] at hd; simp [vsAt] at hf; simp [famX, putX, d11, d25] at hbx; refine wC rfl fun K' q' => ?_; simp [y, hbx, hb, hd, hf, he17a, he17b, he17c, he17d]; exact q' _ (wN (q _ (by simp [vsAt, famX, putX, upd1, hbx, d11, d25, he17a, he17b, he17c, he17d]))))
   ·intro τ D hbx hb hd hf d12 g1 g2 hT
    cases d25 : D 25 <;> (intro K q; try simp [vsAt] at hd; simp [vsAt] at hf; simp [famX, putX, d12, d25] at hbx; refine wC rfl fun K' q' => ?_; simp [y, hbx, hb, hd, hf, he17a, he17b, he17c, he17d]; exact q' _ (wN (q _ (by simp [vsAt, famX, putX, upd1, hbx, d12, d25, he17a, he17b, he17c, he17d]))))
   ·intro τ D hbx hb hd hf d13 g1 g2 hT
    cases d25 : D 25 <;> (intro K q; try simp [vsAt] at hd; simp [vsAt] at hf; simp [famX, putX, d13, d25] at hbx; refine wC rfl fun K' q' => ?_; simp [y, hbx, hb, hd, hf, he17a, he17b, he17c, he17d]; exact q' _ (wN (q _ (by simp [vsAt, famX, putX, upd1, hbx, d13, d25, he17a, he17b, he17c, he17d]))))
   ·intro τ D hbx hb hd hf d14 g1 g2 hT
    cases d25 : D 25 <;> (intro K q; try simp [vsAt] at hd; simp [vsAt] at hf; simp [famX, putX, d14, d25] at hbx; refine wC rfl fun K' q' => ?_; simp [y, hbx, hb, hd, hf, he17a, he17b, he17c, he17d]; exact q' _ (wN (q _ (by simp [vsAt, famX, putX, upd1, hbx, d14, d25, he17a, he17b, he17c, he17d]))))
   ·intro τ D hbx hb hd hf d15 g1 g2 hT
    cases d25 : D 25 <;> (intro K q; try simp [vsAt] at hd; simp [vsAt] at hf; simp [famX, putX, d15, d25] at hbx; refine wC rfl fun K' q' => ?_; simp [y, hbx, hb, hd, hf, he17a, he17b, he17c, he17d]; exact q' _ (wN (q _ (by simp [vsAt, famX, putX, upd1, hbx, d15, d25, he17a, he17b, he17c, he17d]))))
   ·intro τ D hbx hb hd hf d16 g1 g2 hT
    cases d25 : D 25 <;> (intro K q; try simp [vsAt] at hd; simp [vsAt] at hf; simp [famX, putX, d16, d25] at hbx; refine wC rfl fun K' q' => ?_; simp [y, hbx, hb, hd, hf, he17a, he17b, he17c, he17d]; exact q' _ (wN (q _ (by simp [vsAt, famX, putX, upd1, hbx, d16, d25, he17a, he17b, he17c, he17d]))))
   ·intro τ D hbx hb hd hf d17 g1 g2 hT
    cases d25 : D 25 <;> (intro K q; try simp [vsAt] at hd; simp [vsAt] at hf; simp [famX, putX, d17, d25] at hbx; refine wC rfl fun K' q' => ?_; simp [y, hbx, hb, hd, hf, he17a, he17b, he17c, he17d]; exact q' _ (wN (q _ (by simp [vsAt, famX, putX, upd1, hbx, d17, d25, he17a, he17b, he17c, he17d]))))
   ·intro τ D hbx hb hd hf d18 g1 g2 hT
    cases d25 : D 25 <;> (intro K q; try simp [vsAt] at hd; simp [vsAt] at hf; simp [famX, putX, d18, d25] at hbx; refine wC rfl fun K' q' => ?_; simp [y, hbx, hb, hd, hf, he17a, he17b, he17c, he17d]; exact q' _ (wN (q _ (by simp [vsAt, famX, putX, upd1, hbx, d18, d25, he17a, he17b, he17c, he17d]))))
   ·intro τ D hbx hb hd hf d19 g1 g2 hT
    cases d25 : D 25 <;> (intro K q; try simp [vsAt] at hd; simp [vsAt] at hf; simp [famX, putX, d19, d25] at hbx; refine wC rfl fun K' q' => ?_; simp [y, hbx, hb, hd, hf, he17a, he17b, he17c, he17d]; exact q' _ (wN (q _ (by simp [vsAt, famX, putX, upd1, hbx, d19, d25, he17a, he17b, he17c, he17d]))))
   ·intro τ D hbx hb hd hf d20 g1 g2 hT
    cases d25 : D 25 <;> (intro K q; try simp [vsAt] at hd; simp [vsAt] at hf; simp [famX, putX, d20, d25] at hbx; refine wC rfl fun K' q' => ?_; simp [y, hbx, hb, hd, hf, he17a, he17b, he17c, he17d]; exact q' _ (wN (q _ (by simp [vsAt, famX, putX, upd1, hbx, d20, d25, he17a, he17b, he17c, he17d]))))
   ·intro τ D hbx hb hd hf d21 g1 g2 hT
    cases d25 : D 25 <;> (intro K q; try simp [vsAt] at hd; simp [vsAt] at hf; simp [famX, putX, d21, d25] at hbx; refine wC rfl fun K' q' => ?_; simp [y, hbx, hb, hd, hf, he17a, he17b, he17c, he17d]; exact q' _ (wN (q _ (by simp [vsAt, famX, putX, upd1, hbx, d21, d25, he17a, he17b, he17c, he17d]))))
   ·intro τ D hbx hb hd hf d22 g1 g2 hT
    cases d25 : D 25 <;> (intro K q; try simp [vsAt] at hd; simp [vsAt] at hf; simp [famX, putX, d22, d25] at hbx; refine wC rfl fun K' q' => ?_; simp [y, hbx, hb, hd, hf, he17a, he17b, he17c, he17d]; exact q' _ (wN (q _ (by simp [vsAt, famX, putX, upd1, hbx, d22, d25, he17a, he17b, he17c, he17d]))))
   ·intro τ D hbx hb hd hf d23 g1 g2 hT
    cases d25 : D 25 <;> (intro K q; try simp [vsAt] at hd; simp [vsAt] at hf; simp [famX, putX, d23, d25] at hbx; refine wC rfl fun K' q' => ?_; simp [y, hbx, hb, hd, hf, he17a, he17b, he17c, he17d]; exact q' _ (wN (q _ (by simp [vsAt, famX, putX, upd1, hbx, d23, d25, he17a, he17b, he17c, he17d]))))
   ·intro τ D hbx hb hd hf d24 g1 g2 hT
    cases d25 : D 25 <;> (intro K q; try simp [vsAt] at hd; simp [vsAt] at hf; simp [famX, putX, d24, d25] at hbx; refine wC rfl fun K' q' => ?_; simp [y, hbx, hb, hd, hf, he17a, he17b, he17c, he17d]; exact q' _ (wN (q _ (by simp [vsAt, famX, putX, upd1, hbx, d24, d25, he17a, he17b, he17c, he17d]))))
   ·intro τ D hbx hb hd hf d25 g1 g2 hT
    have hkl := killAll_id (.box 7) [25] hT rfl rfl (by simp [d25])
    simp only [AV.killAll, List.any_eq_true] at hkl
    (intro K q; try simp [vsAt] at hd; simp [vsAt] at hf; simp [famX, putX, d25] at hbx; refine wC rfl fun K' q' => ?_; simp [y, hbx, hb, hd, hf, he17a, he17b, he17c, he17d, hkl]; exact q' _ (wN (q _ (by simp [vsAt, famX, putX, upd1, hbx, d25, he17a, he17b, he17c, he17d, hkl]))))
  simp [famD, putL, famX, putX]
  refine wC rfl fun K q => ?_; simp [y, he17a, he17b, he17c, he17d]; refine q _ ?_; clear q
  refine wN (q _ ?_); clear q
  show SWp E C _ _ _
  obtain ⟨⟨v42, v43⟩, hj18, h⟩ := bS h
  try dsimp only at h
  refine SWp.seqC [0, 7] [7, 122] (fun _ : Unit => ⟨[(0, .ref (.box 122) 0 []), (7, .ref (.box 7) 0 [])], [(7, [vi v42.Kind, vi v42.Num, vs v42.Name, .sl true 1 (List.map vi v42.Kids)]), (122, [.sl false 4 (List.map (GNode.enc false) v43.from_), .sl true 4 (List.map (GNode.enc true) v43.to_), vb v43.bad])]⟩) (fun _ => True) (fun _ _ => ?_) fun K19 hK19 => ?_
  rotate_left
  ·refine SWp.sR rfl (u _ rfl) fun K q => ?_
   refine wC rfl fun K q => ?_; simp [y]; refine q _ ?_; clear q
   refine wN (q _ ?_); clear q
   refine SWp.block ?_
   refine SWp.loopO [] [0, 1, 2, 7, 8] [7, 122] (fun v : Int × GNode × Gl04Pack => ⟨[(0, .ref (.box 122) 0 []), (1, .t (vi k2)), (2, .t (vi deep3)), (7, .ref (.box 7) 0 []), (8, .t (vi v.1))], [(7, [vi v.2.1.Kind, vi v.2.1.Num, vs v.2.1.Name, .sl true 1 (List.map vi v.2.1.Kids)]), (122, [.sl false 4 (List.map (GNode.enc false) v.2.2.from_), .sl true 4 (List.map (GNode.enc true) v.2.2.to_), vb v.2.2.bad])]⟩) (spec_l04Pack_put_l1 rec_spec_l04Pack_put k2 deep3) _ (0, (⟨e17.Kind, e17.Num, e17.Name, []⟩ : GNode), (⟨x1.from_, x1.to_, x1.bad⟩ : Gl04Pack)) hj18 (by simp [y]) ?_
   intro g s26 h24 ho25
   obtain ⟨i21, v22, v23⟩ := g
   simp only [spec_l04Pack_put_l1] at h24
   try dsimp only
   refine SWp.seq ?_
   obtain ⟨v32, hj27, h24⟩ := bS h24
   refine SWp.seqRC rfl (u _ rfl) [0, 1, 2, 7, 8, 82] [7, 122] (fun _ : Unit => ⟨[(0, .ref (.box 122) 0 []), (1, .t (vi k2)), (2, .t (vi deep3)), (7, .ref (.box 7) 0 []), (8, .t (vi i21)), (82, .t (vb v32))], [(7, [vi v22.Kind, vi v22.Num, vs v22.Name, .sl true 1 (List.map vi v22.Kids)]), (122, [.sl false 4 (List.map (GNode.enc false) v23.from_), .sl true 4 (List.map (GNode.enc true) v23.to_), vb v23.bad])]⟩) (fun _ => True) (fun _ _ => ?_) fun K28 hK28 => ?_
   rotate_left
   ·refine wC rfl fun K q => ?_; simp [y]; refine q _ ?_; clear q
    iterate 5 (refine wC rfl fun K q => ?_; simp [y]; refine q _ ?_; clear q)
    obtain ⟨e29, he29, hj27⟩ := bS hj27
    obtain ⟨he29a, he29b, he29c, he29d⟩ := gS he29
    iterate 6 (refine wC rfl fun K q => ?_; simp [y, he29a, he29b, he29c, he29d]; refine q _ ?_; clear q)
    rcases ite_or hj27 with ⟨hb30, hj27⟩ | ⟨hb31, hj27⟩
    ·have hb30s := hb30
     try simp at hb30s
     iterate 6 (refine wC rfl fun K q => ?_; simp [y, he29a, he29b, he29c, he29d, hb30, hb30s]; refine q _ ?_; clear q)
     refine wN ?_
     cases hj27
     exact hK28 _ () [] trivial (by simp [y, he29a, he29b, he29c, he29d, hb30, hb30s])
    ·have hb31s := hb31
     try simp at hb31s
     iterate 5 (refine wO fun K q => ?_; simp [y, he29a, he29b, he29c, he29d, hb31, hb31s]; refine q _ ?_; clear q)
     refine wC rfl fun K q => ?_; simp [y, he29a, he29b, he29c, he29d, hb31, hb31s]; refine q _ ?_; clear q
     refine wN ?_
     cases hj27
     exact hK28 _ () [] trivial (by simp [y, he29a, he29b, he29c, he29d, hb31, hb31s])
   rcases ite_or h24 with ⟨hb33, h24⟩ | ⟨hb34, h24⟩
   ·refine SWp.cT' (b := v32) (by simp) hb33 ?_
    refine SWp.skip ?_
    show SWp E C _ _ _
    refine SWp.seq ?_
    refine SWp.block ?_
    refine SWp.sR rfl (u _ rfl) fun K q => ?_
    iterate 6 (refine wC rfl fun K q => ?_; simp [y]; refine q _ ?_; clear q)
    obtain ⟨e35, he35, h24⟩ := bS h24
    obtain ⟨he35a, he35b, he35c, he35d⟩ := gS he35
    iterate 4 (refine wC rfl fun K q => ?_; simp [y, he35a, he35b, he35c, he35d]; refine q _ ?_; clear q)
    obtain ⟨e36, he36, h24⟩ := bS h24
    obtain ⟨he36a, he36b, he36c, he36d⟩ := gS he36
    iterate 4 (refine wC rfl fun K q => ?_; simp [y, he35a, he35b, he35c, he35d, he36a, he36b, he36c, he36d]; refine q _ ?_; clear q)
    obtain ⟨⟨r37, q38⟩, hc39, h24⟩ := bS h24
    try dsimp only at h24
    refine wL [((.ptr 3), .tmp 85), (.take, .tmp 96), (.take, .tmp 98)] rfl rfl ent67 (hrec_spec_l04Pack_put _ _ _ hc39) fun K q => ?_; simp [y, he35a, he35b, he35c, he35d, he36a, he36b, he36c, he36d]; refine q _ ?_; clear q
    refine wC rfl fun K q => ?_; simp [y, he35a, he35b, he35c, he35d, he36a, he36b, he36c, he36d]; refine q _ ?_; clear q
    refine wN (q _ ?_); clear q
    refine SWp.reg rfl (u _ rfl) fun K q => ?_
    iterate 4 (refine wC rfl fun K q => ?_; simp [y]; refine q _ ?_; clear q)
    obtain ⟨l40, hl40, h24⟩ := bS h24
    obtain ⟨hl40a, hl40b, hl40d⟩ := aS hl40
    have hl40f : List.map vi v22.Kids ++ List.map vi [r37] = List.map vi l40 := app_map (f := vi) hl40d
    simp [eSl] at hl40a hl40b hl40f
    iterate 3 (refine wC rfl fun K q => ?_; simp [y, hl40a, hl40b, hl40f]; refine q _ ?_; clear q)
    refine wN (q _ ?_); clear q
    show SWp E C _ _ _
    refine SWp.reg rfl (u _ rfl) fun K q => ?_
    iterate 3 (refine wC rfl fun K q => ?_; simp [y]; refine q _ ?_; clear q)
    refine wN (q _ ?_); clear q
    cases h24
    exact ⟨_, [], rfl, by simp [y]⟩
   ·refine SWp.cF' (b := v32) (by simp) hb34 ?_
    refine SWp.exit ?_
    have h41 := congrArg some (ho25 _ (Option.some.inj h24).symm)
    cases h41
    exact hK19 _ () [] trivial (by simp [y])
  refine SWp.seq ?_
  obtain ⟨l44, hl44, h⟩ := bS h
  obtain ⟨hl44a, hl44b, hl44d⟩ := aS hl44
  have hl44f : List.map (GNode.enc true) v43.to_ ++ List.map (GNode.enc true) [v42] = List.map (GNode.enc true) l44 := app_map (f := (GNode.enc true)) hl44d
  simp [eSl, GNode.enc] at hl44a hl44b hl44f
  refine SWp.drawX rfl (u _ rfl) [106, 107, 108, 109, 110, 111, 112, 113] [[(106, .ref (.box 122) 0 [])], [(107, .ref (.box 122) 0 [])], [(108, .ref (.box 122) 0 [])], [(109, .ref (.box 122) 1 [])], [(110, .al (.box 122) 1 [] none)], [(111, .al (.box 7) 0 [] (some 4))], [(112, .t (.sl true 4 (List.map (GNode.enc true) [v42]))), (111, .u)], [(113, .t (.sl true 4 (List.map (GNode.enc true) l44))), (110, .u), (112, .u)]] [[], [], [], [], [], [], [(7, [vi v42.Kind, vi v42.Num, vs v42.Name, .dead])], [(122, [.sl false 4 (List.map (GNode.enc false) v43.from_), .dead, vb v43.bad])]] [[], [], [1], [1, 2], [1, 2, 3], [], [5], [1, 2, 3, 4, 5, 6], [0, 1, 2, 3, 4, 5, 6, 7], [0, 1, 2, 3, 4, 5, 6, 7, 8], [0, 1, 2, 3, 4, 5, 6, 7, 8, 9]] rfl (by simp) rfl rfl rfl ?_ fun K q => ?_
  ·refine ⟨?_, ?_, ?_, ?_, ?_, ?_, ?_, ?_, trivial⟩
   ·intro D d0 g1 g2
    cases d1 : D 1 <;> cases d2 : D 2 <;> cases d3 : D 3 <;> cases d4 : D 4 <;> cases d5 : D 5 <;> cases d6 : D 6 <;> cases d7 : D 7 <;> (intro K q; simp [famD, putL, upd1, famX, putX, d0, d1, d2, d3, d4, d5, d6, d7] at q ⊢; refine wC rfl fun K' q' => ?_; simp [y, hl44a, hl44b, hl44f]; refine q' _ (wN ?_); first | exact q | simpa [hl44a, hl44b, hl44f] using q)
   ·intro D d1 g1 g2
    have d2 : D 2 = false := g2 2 (by simp) (by simp)
    have d3 : D 3 = false := g2 3 (by simp) (by simp)
    have d4 : D 4 = false := g2 4 (by simp) (by simp)
    have d7 : D 7 = false := g2 7 (by simp) (by simp)
    cases d0 : D 0 <;> cases d5 : D 5 <;> cases d6 : D 6 <;> (intro K q; simp [famD, putL, upd1, famX, putX, d0, d1, d2, d3, d4, d5, d6, d7] at q ⊢; refine wC rfl fun K' q' => ?_; simp [y, hl44a, hl44b, hl44f]; refine q' _ (wN ?_); first | exact q | simpa [hl44a, hl44b, hl44f] using q)
   ·intro D d2 g1 g2
    have d1 : D 1 = true := g1 1 (by simp)
    have d3 : D 3 = false := g2 3 (by simp) (by simp)
    have d4 : D 4 = false := g2 4 (by simp) (by simp)
    have d7 : D 7 = false := g2 7 (by simp) (by simp)
    cases d0 : D 0 <;> cases d5 : D 5 <;> cases d6 : D 6 <;> (intro K q; simp [famD, putL, upd1, famX, putX, d0, d1, d2, d3, d4, d5, d6, d7] at q ⊢; refine wC rfl fun K' q' => ?_; simp [y, hl44a, hl44b, hl44f]; refine q' _ (wN ?_); first | exact q | simpa [hl44a, hl44b, hl44f] using q)
   ·intro D d3 g1 g2
    have d1 : D 1 = true := g1 1 (by simp)
    have d2 : D 2 = true := g1 2 (by simp)
    have d4 : D 4 = false := g2 4 (by simp) (by simp)
    have d7 : D 7 = false := g2 7 (by simp) (by simp)
    cases d0 : D 0 <;> cases d5 : D 5 <;> cases d6 : D 6 <;> (intro K q; simp [famD, putL, upd1, famX, putX, d0, d1, d2, d3, d4, d5, d6, d7] at q ⊢; refine wC rfl fun K' q' => ?_; simp [y, hl44a, hl44b, hl44f]; refine q' _ (wN ?_); first | exact q | simpa [hl44a, hl44b, hl44f] using q)
   ·intro D d4 g1 g2
    have d1 : D 1 = true := g1 1 (by simp)
    have d2 : D 2 = true := g1 2 (by simp)
    have d3 : D 3 = true := g1 3 (by simp)
    have d7 : D 7 = false := g2 7 (by simp) (by simp)
    cases d0 : D 0 <;> cases d5 : D 5 <;> cases d6 : D 6 <;> (intro K q; simp [famD, putL, upd1, famX, putX, d0, d1, d2, d3, d4, d5, d6, d7] at q ⊢; refine wC rfl fun K' q' => ?_; simp [y, hl44a, hl44b, hl44f]; refine q' _ (wN ?_); first | exact q | simpa [hl44a, hl44b, hl44f] using q)
   ·intro D d5 g1 g2
    have d6 : D 6 = false := g2 6 (by simp) (by simp)
    have d7 : D 7 = false := g2 7 (by simp) (by simp)
    cases d0 : D 0 <;> cases d1 : D 1 <;> cases d2 : D 2 <;> cases d3 : D 3 <;> cases d4 : D 4 <;> (intro K q; simp [famD, putL, upd1, famX, putX, d0, d1, d2, d3, d4, d5, d6, d7] at q ⊢; refine wC rfl fun K' q' => ?_; simp [y, hl44a, hl44b, hl44f]; refine q' _ (wN ?_); first | exact q | simpa [hl44a, hl44b, hl44f] using q)
   ·intro D d6 g1 g2
    have d5 : D 5 = true := g1 5 (by simp)
    have d7 : D 7 = false := g2 7 (by simp) (by simp)
    cases d0 : D 0 <;> cases d1 : D 1 <;> cases d2 : D 2 <;> cases d3 : D 3 <;> cases d4 : D 4 <;> (intro K q; simp [famD, putL, upd1, famX, putX, d0, d1, d2, d3, d4, d5, d6, d7] at q ⊢; refine wC rfl fun K' q' => ?_; simp [y, hl44a, hl44b, hl44f]; refine q' _ (wN ?_); first | exact q | simpa [hl44a, hl44b, hl44f] using q)
   ·intro D d7 g1 g2
    have d1 : D 1 = true := g1 1 (by simp)
    have d2 : D 2 = true := g1 2 (by simp)
    have d3 : D 3 = true := g1 3 (by simp)
    have d4 : D 4 = true := g1 4 (by simp)
    have d5 : D 5 = true := g1 5 (by simp)
    have d6 : D 6 = true := g1 6 (by simp)
    cases d0 : D 0 <;> (intro K q; simp [famD, putL, upd1, famX, putX, d0, d1, d2, d3, d4, d5, d6, d7] at q ⊢; refine wC rfl fun K' q' => ?_; simp [y, hl44a, hl44b, hl44f]; refine q' _ (wN ?_); first | exact q | simpa [hl44a, hl44b, hl44f] using q)
  simp [famD, putL, famX, putX]
  iterate 3 (refine wC rfl fun K q => ?_; simp [y, hl44a, hl44b, hl44f]; refine q _ ?_; clear q)
  refine wN (q _ ?_); clear q
  show SWp E C _ _ _
  refine SWp.sR rfl (u _ rfl) fun K q => ?_
  iterate 7 (refine wC rfl fun K q => ?_; simp [y]; refine q _ ?_; clear q)
  refine wN (q _ ?_); clear q
  cases h
  refine SWp.ret ?_
  simp [thenS, iB, res67]
theorem spec_l04Pack_put_rec_ok : ∀ n : Nat, (∀ (a0 : Gl04Pack) (a1 : Int) (a2 : Int) {r0 : Int} {q0 : Gl04Pack}, (spec_l04Pack_put_rec n) a0 a1 a2 = some (r0, q0) → Ok E 67 [.ptr [.sl false 4 (List.map (GNode.enc false) a0.from_), .sl true 4 (List.map (GNode.enc true) a0.to_), vb a0.bad], .val (vi a1), .val (vi a2)] [vi r0] [[.sl false 4 (List.map (GNode.enc false) q0.from_), .sl true 4 (List.map (GNode.enc true) q0.to_), vb q0.bad]])
 | 0 => (by intros; rename_i h; cases h)
 | n + 1 => spec_l04Pack_put_b_ok (spec_l04Pack_put_rec n) (spec_l04Pack_put_rec_ok n)
theorem spec_l04Pack_put_ok : ∀ (a0 : Gl04Pack) (a1 : Int) (a2 : Int) {r0 : Int} {q0 : Gl04Pack}, spec_l04Pack_put a0 a1 a2 = some (r0, q0) → Ok E 67 [.ptr [.sl false 4 (List.map (GNode.enc false) a0.from_), .sl true 4 (List.map (GNode.enc true) a0.to_), vb a0.bad], .val (vi a1), .val (vi a2)] [vi r0] [[.sl false 4 (List.map (GNode.enc false) q0.from_), .sl true 4 (List.map (GNode.enc true) q0.to_), vb q0.bad]] := (spec_l04Pack_put_rec_ok recFuel)
theorem res38 : Tryz.f38.results.toList = [.cell 2 31, .tmp 3] := rfl
theorem ent38 : Enters E.P 38 := eO Tryz.func38 (by simp [Tryz.f38]) rfl
theorem spec_Packed_ok (p1 : GProgram) {r0 : GProgram} {r1 : Bool} (h : spec_Packed p1 = some (r0, r1)) : Ok E 38 [.val (GProgram.enc false p1)] [GProgram.enc true r0, vb r1] [] := by
 refine oB (fn := Tryz.f38) Tryz.func38 rfl (by simp [Tryz.f38]) fun C hN hP => ?_
 have u : ∀ l, pinK [] l = true → pinB C.pin l = true := pO (by rw [hP]; rfl)
 have y : C.N = 68 := hN
 clear hN
 unfold spec_Packed at h
 refine SWp.sR rfl (u _ rfl) fun K q => ?_
 iterate 3 (refine wC rfl fun K q => ?_; simp [y]; refine q _ ?_; clear q)
 refine wN (q _ ?_); clear q
 refine SWp.sR rfl (u _ rfl) fun K q => ?_
 iterate 5 (refine wC rfl fun K q => ?_; simp [y]; refine q _ ?_; clear q)
 refine wN (q _ ?_); clear q
 refine SWp.sR rfl (u _ rfl) fun K q => ?_
 iterate 3 (refine wC rfl fun K q => ?_; simp [y]; refine q _ ?_; clear q)
 refine wN (q _ ?_); clear q
 obtain ⟨⟨v30, v31⟩, hj2, h⟩ := bS h
 try dsimp only at h
 refine SWp.seqC [2, 4, 5] [2, 5, 11] (fun _ : Unit => ⟨[(2, .ref (.box 2) 0 []), (4, .ref (.box 11) 0 []), (5, .ref (.box 5) 0 [])], [(2, [.sl true 4 [], .sl true 5 []]), (5, [.sl true 4 (List.map (GNode.enc true) v30.Nodes), .sl true 5 (List.map (GFn.enc true) v30.Fns)]), (11, [.sl false 4 (List.map (GNode.enc false) v31.from_), .sl true 4 (List.map (GNode.enc true) v31.to_), vb v31.bad])]⟩) (fun _ => True) (fun _ _ => ?_) fun K3 hK3 => ?_
 rotate_left
 ·refine SWp.sR rfl (u _ rfl) fun K q => ?_
  refine wC rfl fun K q => ?_; simp [y]; refine q _ ?_; clear q
  refine wN (q _ ?_); clear q
  refine SWp.block ?_
  refine SWp.loopO [] [1, 2, 4, 5, 6] [1, 2, 5, 11] (fun v : Int × GProgram × Gl04Pack => ⟨[(1, .ref (.box 1) 0 []), (2, .ref (.box 2) 0 []), (4, .ref (.box 11) 0 []), (5, .ref (.box 5) 0 []), (6, .t (vi v.1))], [(1, [.sl false 4 (List.map (GNode.enc false) p1.Nodes), .sl false 5 (List.map (GFn.enc false) p1.Fns)]), (2, [.sl true 4 [], .sl true 5 []]), (5, [.sl true 4 (List.map (GNode.enc true) v.2.1.Nodes), .sl true 5 (List.map (GFn.enc true) v.2.1.Fns)]), (11, [.sl false 4 (List.map (GNode.enc false) v.2.2.from_), .sl true 4 (List.map (GNode.enc true) v.2.2.to_), vb v.2.2.bad])]⟩) (spec_Packed_l1 p1) _ (0, (⟨[], []⟩ : GProgram), (⟨p1.Nodes, [], false⟩ : Gl04Pack)) hj2 (by simp [y]) ?_
  intro g s10 h8 ho9
  obtain ⟨i5, v6, v7⟩ := g
  simp only [spec_Packed_l1] at h8
  try dsimp only
  refine SWp.seq ?_
  refine SWp.sR rfl (u _ rfl) fun K q => ?_
  iterate 5 (refine wC rfl fun K q => ?_; simp [y]; refine q _ ?_; clear q)
  refine wN (q _ ?_); clear q
  rcases ite_or h8 with ⟨hb11, h8⟩ | ⟨hb12, h8⟩
  ·refine SWp.cT' (b := decide (i5 < (p1.Fns.length : Int))) (by simp) hb11 ?_
   refine SWp.skip ?_
   show SWp E C _ _ _
   refine SWp.seq ?_
   refine SWp.block ?_
   refine SWp.sR rfl (u _ rfl) fun K q => ?_
   iterate 3 (refine wC rfl fun K q => ?_; simp [y]; refine q _ ?_; clear q)
   obtain ⟨e13, he13, h8⟩ := bS h8
   obtain ⟨he13a, he13b, he13c, he13d⟩ := gS he13
   iterate 4 (refine wC rfl fun K q => ?_; simp [y, he13a, he13b, he13c, he13d]; refine q _ ?_; clear q)
   refine wN (q _ ?_); clear q
   refine SWp.sR rfl (u _ rfl) fun K q => ?_
   iterate 3 (refine wC rfl fun K q => ?_; simp [y]; refine q _ ?_; clear q)
   obtain ⟨l14, hl14, h8⟩ := bS h8
   obtain ⟨hl14a, hl14b, hl14d⟩ := aS hl14
   simp [eSl, GParam.enc] at hl14a hl14b
   iterate 3 (refine wC rfl fun K q => ?_; simp [y, hl14a, hl14b]; refine q _ ?_; clear q)
   refine wN (q _ ?_); clear q
   refine SWp.sR rfl (u _ rfl) fun K q => ?_
   iterate 3 (refine wC rfl fun K q => ?_; simp [y]; refine q _ ?_; clear q)
   obtain ⟨⟨r15, q16⟩, hc17, h8⟩ := bS h8
   try dsimp only at h8
   refine wL [((.ptr 3), .tmp 30), (.take, .tmp 32), (.take, .const (.int .i64 1))] rfl rfl ent67 (spec_l04Pack_put_ok _ _ _ hc17) fun K q => ?_; simp [y]; refine q _ ?_; clear q
   iterate 2 (refine wC rfl fun K q => ?_; simp [y]; refine q _ ?_; clear q)
   refine wN (q _ ?_); clear q
   obtain ⟨⟨v26, v27⟩, hj18, h8⟩ := bS h8
   try dsimp only at h8
   refine SWp.seqC [1, 2, 4, 5, 6, 7] [1, 2, 5, 7, 11] (fun _ : Unit => ⟨[(1, .ref (.box 1) 0 []), (2, .ref (.box 2) 0 []), (4, .ref (.box 11) 0 []), (5, .ref (.box 5) 0 []), (6, .t (vi i5)), (7, .ref (.box 7) 0 [])], [(1, [.sl false 4 (List.map (GNode.enc false) p1.Nodes), .sl false 5 (List.map (GFn.enc false) p1.Fns)]), (2, [.sl true 4 [], .sl true 5 []]), (5, [.sl true 4 (List.map (GNode.enc true) v6.Nodes), .sl true 5 (List.map (GFn.enc true) v6.Fns)]), (7, [vs v26.Name, .sl true 2 (List.map GParam.enc v26.Params), vi v26.Res, vi v26.Body, vi v26.Ret]), (11, [.sl false 4 (List.map (GNode.enc false) v27.from_), .sl true 4 (List.map (GNode.enc true) v27.to_), vb v27.bad])]⟩) (fun _ => True) (fun _ _ => ?_) fun K19 hK19 => ?_
   rotate_left
   ·refine SWp.sR rfl (u _ rfl) fun K q => ?_
    iterate 3 (refine wC rfl fun K q => ?_; simp [y]; refine q _ ?_; clear q)
    refine wN (q _ ?_); clear q
    rcases ite_or hj18 with ⟨hb21, hj18⟩ | ⟨hb22, hj18⟩
    ·refine SWp.cT' (b := decide (e13.Ret ≥ 0)) (by simp) hb21 ?_
     refine SWp.reg rfl (u _ rfl) fun K q => ?_
     iterate 3 (refine wC rfl fun K q => ?_; simp [y]; refine q _ ?_; clear q)
     obtain ⟨⟨r23, q24⟩, hc25, hj18⟩ := bS hj18
     try dsimp only at hj18
     refine wL [((.ptr 3), .tmp 38), (.take, .tmp 40), (.take, .const (.int .i64 1))] rfl rfl ent67 (spec_l04Pack_put_ok _ _ _ hc25) fun K q => ?_; simp [y]; refine q _ ?_; clear q
     iterate 2 (refine wC rfl fun K q => ?_; simp [y]; refine q _ ?_; clear q)
     refine wN (q _ ?_); clear q
     cases hj18
     exact hK19 _ () [] trivial (by simp [y])
    ·refine SWp.cF' (b := decide (e13.Ret ≥ 0)) (by simp) hb22 ?_
     refine SWp.skip ?_
     cases hj18
     exact hK19 _ () [] trivial (by simp [y])
   refine SWp.reg rfl (u _ rfl) fun K q => ?_
   iterate 4 (refine wC rfl fun K q => ?_; simp [y]; refine q _ ?_; clear q)
   obtain ⟨l28, hl28, h8⟩ := bS h8
   obtain ⟨hl28a, hl28b, hl28d⟩ := aS hl28
   have hl28f : List.map (GFn.enc true) v6.Fns ++ List.map (GFn.enc true) [v26] = List.map (GFn.enc true) l28 := app_map (f := (GFn.enc true)) hl28d
   simp [eSl, GFn.enc] at hl28a hl28b hl28f
   iterate 3 (refine wC rfl fun K q => ?_; simp [y, hl28a, hl28b, hl28f]; refine q _ ?_; clear q)
   refine wN (q _ ?_); clear q
   show SWp E C _ _ _
   refine SWp.reg rfl (u _ rfl) fun K q => ?_
   iterate 3 (refine wC rfl fun K q => ?_; simp [y]; refine q _ ?_; clear q)
   refine wN (q _ ?_); clear q
   cases h8
   exact ⟨_, [], rfl, by simp [y]⟩
  ·refine SWp.cF' (b := decide (i5 < (p1.Fns.length : Int))) (by simp) hb12 ?_
   refine SWp.exit ?_
   have h29 := congrArg some (ho9 _ (Option.some.inj h8).symm)
   cases h29
   exact hK3 _ () [] trivial (by simp [y])
 refine SWp.seq ?_
 obtain ⟨v36, hj32, h⟩ := bS h
 refine SWp.seqRC rfl (u _ rfl) [2, 4, 5, 60] [2, 5, 11] (fun _ : Unit => ⟨[(2, .ref (.box 2) 0 []), (4, .ref (.box 11) 0 []), (5, .ref (.box 5) 0 []), (60, .t (vb v36))], [(2, [.sl true 4 [], .sl true 5 []]), (5, [.sl true 4 (List.map (GNode.enc true) v30.Nodes), .sl true 5 (List.map (GFn.enc true) v30.Fns)]), (11, [.sl false 4 (List.map (GNode.enc false) v31.from_), .sl true 4 (List.map (GNode.enc true) v31.to_), vb v31.bad])]⟩) (fun _ => True) (fun _ _ => ?_) fun K33 hK33 => ?_
 rotate_left
 ·refine wC rfl fun K q => ?_; simp [y]; refine q _ ?_; clear q
  iterate 4 (refine wC rfl fun K q => ?_; simp [y]; refine q _ ?_; clear q)
  rcases ite_or hj32 with ⟨hb34, hj32⟩ | ⟨hb35, hj32⟩
  ·have hb34s := hb34
   try simp at hb34s
   iterate 6 (refine wO fun K q => ?_; simp [y, hb34, hb34s]; refine q _ ?_; clear q)
   refine wC rfl fun K q => ?_; simp [y, hb34, hb34s]; refine q _ ?_; clear q
   refine wN ?_
   cases hj32
   exact hK33 _ () [] trivial (by simp [y, hb34, hb34s])
  ·have hb35s := hb35
   try simp at hb35s
   iterate 7 (refine wC rfl fun K q => ?_; simp [y, hb35, hb35s]; refine q _ ?_; clear q)
   refine wN ?_
   cases hj32
   exact hK33 _ () [] trivial (by simp [y, hb35, hb35s])
 rcases ite_or h with ⟨hb37, h⟩ | ⟨hb38, h⟩
 ·refine SWp.cT' (b := v36) (by simp) hb37 ?_
  refine SWp.sR rfl (u _ rfl) fun K q => ?_
  iterate 3 (refine wC rfl fun K q => ?_; simp [y]; refine q _ ?_; clear q)
  refine wN (q _ ?_); clear q
  cases h
  refine SWp.ret ?_
  simp [thenS, iB, res38]
 ·refine SWp.cF' (b := v36) (by simp) hb38 ?_
  refine SWp.skip ?_
  show SWp E C _ _ _
  refine SWp.sR rfl (u _ rfl) fun K q => ?_
  iterate 6 (refine wC rfl fun K q => ?_; simp [y]; refine q _ ?_; clear q)
  refine wN (q _ ?_); clear q
  refine SWp.sR rfl (u _ rfl) fun K q => ?_
  iterate 3 (refine wC rfl fun K q => ?_; simp [y]; refine q _ ?_; clear q)
  refine wN (q _ ?_); clear q
  cases h
  refine SWp.ret ?_
  simp [thenS, iB, res38]
theorem res13 : Tryz.f13.results.toList = [.cell 2 31] := rfl
theorem ent13 : Enters E.P 13 := eO Tryz.func13 (by simp [Tryz.f13]) rfl
theorem spec_Folded_ok (p1 : GProgram) {r0 : GProgram} (h : spec_Folded p1 = some r0) : Ok E 13 [.val (GProgram.enc false p1)] [GProgram.enc true r0] [] := by
 refine oB (fn := Tryz.f13) Tryz.func13 rfl (by simp [Tryz.f13]) fun C hN hP => ?_
 have u : ∀ l, pinK [] l = true → pinB C.pin l = true := pO (by rw [hP]; rfl)
 have y : C.N = 54 := hN
 clear hN
 unfold spec_Folded at h
 refine SWp.sR rfl (u _ rfl) fun K q => ?_
 iterate 2 (refine wC rfl fun K q => ?_; simp [y]; refine q _ ?_; clear q)
 refine wN (q _ ?_); clear q
 refine SWp.seq ?_
 refine SWp.sR rfl (u _ rfl) fun K q => ?_
 refine wC rfl fun K q => ?_; simp [y]; refine q _ ?_; clear q
 obtain ⟨r2, hc3, h⟩ := bS h
 refine wL [(.take, .tmp 10)] rfl rfl ent34 (spec_ProgramOk_ok _ hc3) fun K q => ?_; simp [y]; refine q _ ?_; clear q
 refine wC rfl fun K q => ?_; simp [y]; refine q _ ?_; clear q
 refine wN (q _ ?_); clear q
 rcases ite_or h with ⟨hb4, h⟩ | ⟨hb5, h⟩
 ·refine SWp.cT' (b := !r2) (by simp) hb4 ?_
  refine SWp.sR rfl (u _ rfl) fun K q => ?_
  refine wC rfl fun K q => ?_; simp [y]; refine q _ ?_; clear q
  obtain ⟨r6, hc7, h⟩ := bS h
  refine wL [(.take, .tmp 13)] rfl rfl ent35 (spec_l04Copy_ok _ hc7) fun K q => ?_; simp [y]; refine q _ ?_; clear q
  refine wC rfl fun K q => ?_; simp [y]; refine q _ ?_; clear q
  refine wN (q _ ?_); clear q
  cases h
  refine SWp.ret ?_
  simp [thenS, iB, res13]
 ·refine SWp.cF' (b := !r2) (by simp) hb5 ?_
  refine SWp.skip ?_
  show SWp E C _ _ _
  refine SWp.sR rfl (u _ rfl) fun K q => ?_
  refine wC rfl fun K q => ?_; simp [y]; refine q _ ?_; clear q
  obtain ⟨r8, hc9, h⟩ := bS h
  refine wL [(.take, .tmp 15)] rfl rfl ent35 (spec_l04Copy_ok _ hc9) fun K q => ?_; simp [y]; refine q _ ?_; clear q
  iterate 2 (refine wC rfl fun K q => ?_; simp [y]; refine q _ ?_; clear q)
  refine wN (q _ ?_); clear q
  refine SWp.sR rfl (u _ rfl) fun K q => ?_
  refine wC rfl fun K q => ?_; simp [y]; refine q _ ?_; clear q
  obtain ⟨r10, hc11, h⟩ := bS h
  refine wL [(.take, .tmp 17)] rfl rfl ent36 (spec_l26Tops_ok _ hc11) fun K q => ?_; simp [y]; refine q _ ?_; clear q
  refine wC rfl fun K q => ?_; simp [y]; refine q _ ?_; clear q
  refine wN (q _ ?_); clear q
  obtain ⟨v32, hj12, h⟩ := bS h
  refine SWp.seqC [1, 2, 3] [1, 2, 3] (fun _ : Unit => ⟨[(1, .ref (.box 1) 0 []), (2, .ref (.box 2) 0 []), (3, .ref (.box 3) 0 [])], [(1, [.sl false 4 (List.map (GNode.enc false) p1.Nodes), .sl false 5 (List.map (GFn.enc false) p1.Fns)]), (2, [.sl true 4 [], .sl true 5 []]), (3, [.sl true 4 (List.map (GNode.enc true) v32.Nodes), .sl true 5 (List.map (GFn.enc true) v32.Fns)])]⟩) (fun _ => True) (fun _ _ => ?_) fun K13 hK13 => ?_
  rotate_left
  ·refine SWp.sR rfl (u _ rfl) fun K q => ?_
   refine wC rfl fun K q => ?_; simp [y]; refine q _ ?_; clear q
   refine wN (q _ ?_); clear q
   refine SWp.block ?_
   refine SWp.loopO [] [1, 2, 3, 4, 5] [1, 2, 3] (fun v : Int × GProgram => ⟨[(1, .ref (.box 1) 0 []), (2, .ref (.box 2) 0 []), (3, .ref (.box 3) 0 []), (4, .t (.sl true 1 (List.map vi r10))), (5, .t (vi v.1))], [(1, [.sl false 4 (List.map (GNode.enc false) p1.Nodes), .sl false 5 (List.map (GFn.enc false) p1.Fns)]), (2, [.sl true 4 [], .sl true 5 []]), (3, [.sl true 4 (List.map (GNode.enc true) v.2.Nodes), .sl true 5 (List.map (GFn.enc true) v.2.Fns)])]⟩) (spec_Folded_l1 p1 r10) _ (0, r8) hj12 (by simp [y]) ?_
   intro g s19 h17 ho18
   obtain ⟨i15, v16⟩ := g
   simp only [spec_Folded_l1] at h17
   try dsimp only
   refine SWp.seq ?_
   refine SWp.sR rfl (u _ rfl) fun K q => ?_
   iterate 4 (refine wC rfl fun K q => ?_; simp [y]; refine q _ ?_; clear q)
   refine wN (q _ ?_); clear q
   rcases ite_or h17 with ⟨hb20, h17⟩ | ⟨hb21, h17⟩
   ·refine SWp.cT' (b := decide (i15 < (r10.length : Int))) (by simp) hb20 ?_
    refine SWp.skip ?_
    show SWp E C _ _ _
    refine SWp.seq ?_
    refine SWp.block ?_
    refine SWp.seq ?_
    obtain ⟨e23, he23, h17⟩ := bS h17
    obtain ⟨he23a, he23b, he23c, he23d⟩ := gS he23
    obtain ⟨⟨r24, r25⟩, hc26, h17⟩ := bS h17
    try dsimp only at h17
    refine SWp.dT rfl (u _ rfl) [(26, .ref (.box 1) 0 []), (27, .t (.sl false 4 (List.map (GNode.enc false) p1.Nodes))), (28, .al (.slot 4) 0 [] none), (29, .t (vi i15)), (30, .ref (.slot 4) 0 [(i15.toNat, 0)]), (31, .t (vi e23)), (32, .tup [vi r24, vb r25]), (25, .tup [vi r24, vb r25]), (33, .t (vi r24)), (34, .t (vb r25)), (6, .t (vi r24))] [[], [0], [], [], [2, 3], [2, 3, 4], [0, 1, 2, 3, 4, 5], [0, 1, 2, 3, 4, 5, 6], [0, 1, 2, 3, 4, 5, 6, 7], [0, 1, 2, 3, 4, 5, 6, 7], [0, 1, 2, 3, 4, 5, 6, 7, 8], [0, 1, 2, 3, 4, 5, 6, 7, 8, 9, 10]] (by simp) (by simp) (by simp [look]) rfl rfl rfl ?_ fun K q => ?_
    ·refine ⟨?_, ?_, ?_, ?_, ?_, ?_, ?_, ?_, ?_, ?_, ?_, trivial⟩
     all_goals (intro τ hbx hb hd hf K q; try simp [vsAt] at hd; simp [vsAt] at hf; first | (refine wC rfl fun K' q' => ?_; simp [y, hbx, hb, hd, hf, he23a, he23b, he23c, he23d]; exact q' _ (wN (q _ (by simp [vsAt, hbx, he23a, he23b, he23c, he23d])))) | (refine wL [(.take, .tmp 27), (.take, .tmp 31)] rfl rfl ent37 (spec_l26Const_ok _ _ hc26) fun K' q' => ?_; simp [y, hbx, hb, hd, hf, he23a, he23b, he23c, he23d]; exact q' _ (wN (q _ (by simp [vsAt, hbx, he23a, he23b, he23c, he23d])))))
    refine wC rfl fun K q => ?_; simp [y, he23a, he23b, he23c, he23d]; refine q _ ?_; clear q
    refine wN (q _ ?_); clear q
    show SWp E C _ _ _
    obtain ⟨e28, he28, h17⟩ := bS h17
    obtain ⟨he28a, he28b, he28c, he28d⟩ := gS he28
    refine SWp.dT rfl (u _ rfl) [(35, .ref (.box 3) 0 []), (36, .al (.box 3) 0 [] none), (37, .al (.slot 4) 0 [] none), (38, .t (vi i15)), (39, .ref (.slot 4) 0 [(i15.toNat, 0)]), (40, .t (vi e28)), (41, .t (vi r24)), (42, .t (.agg [vi 1, vi r24, vs ByteArray.empty, .sl true 1 []]))] [[], [0], [], [], [2, 3], [2, 3, 4], [], [6], [0, 1, 2, 3, 4, 5, 6, 7], [0, 1, 2, 3, 4, 5, 6, 7, 8]] (by simp) (by simp) (by simp [look]) rfl rfl rfl ?_ fun K q => ?_
    ·refine ⟨?_, ?_, ?_, ?_, ?_, ?_, ?_, ?_, trivial⟩
     all_goals (intro τ hbx hb hd hf K q; try simp [vsAt] at hd; simp [vsAt] at hf; first | (refine wC rfl fun K' q' => ?_; simp [y, hbx, hb, hd, hf, he28a, he28b, he28c, he28d]; exact q' _ (wN (q _ (by simp [vsAt, hbx, he28a, he28b, he28c, he28d])))))
    obtain ⟨e29, he29, h17⟩ := bS h17
    obtain ⟨he29a, he29b, he29c, he29d⟩ := gS he29
    refine wC rfl fun K q => ?_; simp [y, he28a, he28b, he28c, he28d, he29a, he29b, he29c, he29d]; refine q _ ?_; clear q
    obtain ⟨l30, hl30, h17⟩ := bZ h17
    have hl30f : (List.map (GNode.enc true) v16.Nodes).set e28.toNat (.agg [vi 1, vi r24, vs ByteArray.empty, .sl true 1 []]) = List.map (GNode.enc true) l30 := set_map (f := (GNode.enc true)) hl30
    try simp only [Int.toNat_natCast] at hl30f
    refine wC rfl fun K q => ?_; simp [y, he28a, he28b, he28c, he28d, he29a, he29b, he29c, he29d, hl30f]; refine q _ ?_; clear q
    refine wN (q _ ?_); clear q
    show SWp E C _ _ _
    refine SWp.reg rfl (u _ rfl) fun K q => ?_
    iterate 3 (refine wC rfl fun K q => ?_; simp [y]; refine q _ ?_; clear q)
    refine wN (q _ ?_); clear q
    cases h17
    exact ⟨_, [], rfl, by simp [y]⟩
   ·refine SWp.cF' (b := decide (i15 < (r10.length : Int))) (by simp) hb21 ?_
    refine SWp.exit ?_
    have h31 := congrArg some (ho18 _ (Option.some.inj h17).symm)
    cases h31
    exact hK13 _ () [] trivial (by simp [y])
  refine SWp.sR rfl (u _ rfl) fun K q => ?_
  refine wC rfl fun K q => ?_; simp [y]; refine q _ ?_; clear q
  obtain ⟨⟨r33, r34⟩, hc35, h⟩ := bS h
  try dsimp only at h
  refine wL [(.bor, .tmp 45)] rfl rfl ent38 (spec_Packed_ok _ hc35) fun K q => ?_; simp [y]; refine q _ ?_; clear q
  iterate 6 (refine wC rfl fun K q => ?_; simp [y]; refine q _ ?_; clear q)
  refine wN (q _ ?_); clear q
  refine SWp.seq ?_
  refine SWp.sR rfl (u _ rfl) fun K q => ?_
  iterate 2 (refine wC rfl fun K q => ?_; simp [y]; refine q _ ?_; clear q)
  refine wN (q _ ?_); clear q
  rcases ite_or h with ⟨hb36, h⟩ | ⟨hb37, h⟩
  ·refine SWp.cT' (b := !r34) (by simp) hb36 ?_
   refine SWp.sR rfl (u _ rfl) fun K q => ?_
   refine wC rfl fun K q => ?_; simp [y]; refine q _ ?_; clear q
   obtain ⟨r38, hc39, h⟩ := bS h
   refine wL [(.take, .tmp 51)] rfl rfl ent35 (spec_l04Copy_ok _ hc39) fun K q => ?_; simp [y]; refine q _ ?_; clear q
   refine wC rfl fun K q => ?_; simp [y]; refine q _ ?_; clear q
   refine wN (q _ ?_); clear q
   cases h
   refine SWp.ret ?_
   simp [thenS, iB, res13]
  ·refine SWp.cF' (b := !r34) (by simp) hb37 ?_
   refine SWp.skip ?_
   show SWp E C _ _ _
   refine SWp.sR rfl (u _ rfl) fun K q => ?_
   iterate 2 (refine wC rfl fun K q => ?_; simp [y]; refine q _ ?_; clear q)
   refine wN (q _ ?_); clear q
   cases h
   refine SWp.ret ?_
   simp [thenS, iB, res13]
theorem res52 : Tryz.f52.results.toList = [.tmp 6] := rfl
theorem ent52 : Enters E.P 52 := eO Tryz.func52 (by simp [Tryz.f52]) rfl
theorem impl_in_ok (n1 : Int) (low2 : Int) (high3 : Int) {r0 : Bool} (h : impl_in n1 low2 high3 = some r0) : Ok E 52 [.val (vi n1), .val (vi low2), .val (vi high3)] [vb r0] [] := by
 refine oB (fn := Tryz.f52) Tryz.func52 rfl (by simp [Tryz.f52]) fun C hN hP => ?_
 have u : ∀ l, pinK [] l = true → pinB C.pin l = true := pO (by rw [hP]; rfl)
 have y : C.N = 15 := hN
 clear hN
 unfold impl_in at h
 refine SWp.sR rfl (u _ rfl) fun K q => ?_
 refine wC rfl fun K q => ?_; simp [y]; refine q _ ?_; clear q
 refine wN (q _ ?_); clear q
 obtain ⟨v8, hj4, h⟩ := bS h
 refine SWp.seqRC rfl (u _ rfl) [6] [] (fun _ : Unit => ⟨[(6, .t (vb v8))], []⟩) (fun _ => True) (fun _ _ => ?_) fun K5 hK5 => ?_
 rotate_left
 ·refine wC rfl fun K q => ?_; simp [y]; refine q _ ?_; clear q
  iterate 3 (refine wC rfl fun K q => ?_; simp [y]; refine q _ ?_; clear q)
  rcases ite_or hj4 with ⟨hb6, hj4⟩ | ⟨hb7, hj4⟩
  ·have hb6s := hb6
   try simp at hb6s
   iterate 5 (refine wC rfl fun K q => ?_; simp [y, hb6, hb6s]; refine q _ ?_; clear q)
   refine wN ?_
   cases hj4
   exact hK5 _ () [] trivial (by simp [y, hb6, hb6s])
  ·have hb7s := hb7
   try simp at hb7s
   iterate 3 (refine wO fun K q => ?_; simp [y, hb7, hb7s]; refine q _ ?_; clear q)
   iterate 2 (refine wC rfl fun K q => ?_; simp [y, hb7, hb7s]; refine q _ ?_; clear q)
   refine wN ?_
   cases hj4
   exact hK5 _ () [] trivial (by simp [y, hb7, hb7s])
 cases h
 refine SWp.ret ?_
 simp [thenS, iB, res52]
theorem res49 : Tryz.f49.results.toList = [.tmp 4] := rfl
theorem ent49 : Enters E.P 49 := eO Tryz.func49 (by simp [Tryz.f49]) rfl
theorem impl_hasInt_ok (l1 : List Int) (n2 : Int) {r0 : Bool} (h : impl_hasInt l1 n2 = some r0) : Ok E 49 [.val (.sl false 1 (List.map vi l1)), .val (vi n2)] [vb r0] [] := by
 refine oB (fn := Tryz.f49) Tryz.func49 rfl (by simp [Tryz.f49]) fun C hN hP => ?_
 have hPB : ∀ l, pinK [] l = true → pinB C.pin l = true := pO (by rw [hP]; rfl)
 have hN' : C.N = 17 := hN
 clear hN
 unfold impl_hasInt at h
 refine SWp.sR rfl (hPB _ rfl) fun K hK => ?_
 refine wC rfl fun K hK => ?_; simp [hN']; refine hK _ ?_; clear hK
 refine wN (hK _ ?_); clear hK
 obtain ⟨j5, hj3, h⟩ := bS h
 refine SWp.seqC [] [] (fun v : Unit => ⟨[], []⟩) (fun v => j5 = Sum.inl v) (fun v hv => ?_) fun K4 hK4 => ?_
 rotate_left
 ·refine SWp.sR rfl (hPB _ rfl) fun K hK => ?_
  iterate 3 (refine wC rfl fun K hK => ?_; simp [hN']; refine hK _ ?_; clear hK)
  refine wN (hK _ ?_); clear hK
  refine SWp.block ?_
  refine SWp.loopO [] [1, 7, 8, 9] [] (fun v : Int => ⟨[(1, .t (vi n2)), (7, .t (.sl false 1 (List.map vi l1))), (8, .t (vi (l1.length : Int))), (9, .t (vi v))], []⟩) (impl_hasInt_l1 l1 n2) _ 0 hj3 (by simp [hN']) ?_
  intro g s9 h7 ho8
  obtain ⟨v6, hg⟩ : ∃ y, y = g := ⟨_, rfl⟩
  subst hg
  simp only [impl_hasInt_l1] at h7
  try dsimp only
  refine SWp.sR rfl (hPB _ rfl) fun K hK => ?_
  refine wC rfl fun K hK => ?_; simp [hN']; refine hK _ ?_; clear hK
  refine wN (hK _ ?_); clear hK
  refine SWp.seq ?_
  rcases ite_or h7 with ⟨hb10, h7⟩ | ⟨hb11, h7⟩
  ·refine SWp.cT' (b := decide (v6 < (l1.length : Int))) (by simp) hb10 ?_
   refine SWp.skip ?_
   show SWp E C _ _ _
   refine SWp.seq ?_
   refine SWp.block ?_
   refine SWp.sR rfl (hPB _ rfl) fun K hK => ?_
   obtain ⟨e12, he12, h7⟩ := bS h7
   obtain ⟨he12a, he12b, he12c, he12d⟩ := gS he12
   iterate 3 (refine wC rfl fun K hK => ?_; simp [hN', he12a, he12b, he12c, he12d]; refine hK _ ?_; clear hK)
   refine wN (hK _ ?_); clear hK
   refine SWp.sR rfl (hPB _ rfl) fun K hK => ?_
   iterate 3 (refine wC rfl fun K hK => ?_; simp [hN']; refine hK _ ?_; clear hK)
   refine wN (hK _ ?_); clear hK
   rcases ite_or h7 with ⟨hb13, h7⟩ | ⟨hb14, h7⟩
   ·refine SWp.cT' (b := e12 == n2) (by simp) hb13 ?_
    refine SWp.sR rfl (hPB _ rfl) fun K hK => ?_
    refine wC rfl fun K hK => ?_; simp [hN']; refine hK _ ?_; clear hK
    refine wN (hK _ ?_); clear hK
    have h15 := congrArg some (ho8 _ (Option.some.inj h7).symm)
    cases h15
    try dsimp only at h
    cases h
    refine SWp.ret ?_
    simp [thenS, iB, res49]
   ·refine SWp.cF' (b := e12 == n2) (by simp) hb14 ?_
    refine SWp.skip ?_
    show SWp E C _ _ _
    refine SWp.reg rfl (hPB _ rfl) fun K hK => ?_
    iterate 2 (refine wC rfl fun K hK => ?_; simp [hN']; refine hK _ ?_; clear hK)
    refine wN (hK _ ?_); clear hK
    cases h7
    exact ⟨_, [], rfl, by simp [hN']⟩
  ·refine SWp.cF' (b := decide (v6 < (l1.length : Int))) (by simp) hb11 ?_
   refine SWp.exit ?_
   have h16 := congrArg some (ho8 _ (Option.some.inj h7).symm)
   cases h16
   exact hK4 _ _ [] rfl (by simp [hN'])
 subst hv
 obtain ⟨⟩ := v
 try dsimp only at h ⊢
 refine SWp.sR rfl (hPB _ rfl) fun K hK => ?_
 refine wC rfl fun K hK => ?_; simp [hN']; refine hK _ ?_; clear hK
 refine wN (hK _ ?_); clear hK
 cases h
 refine SWp.ret ?_
 simp [thenS, iB, res49]
theorem res110 : Tryz.f110.results.toList = [.tmp 2] := rfl
theorem ent110 : Enters E.P 110 := eO Tryz.func110 (by simp [Tryz.f110]) rfl
theorem impl_isLetter_ok (b1 : Int) {r0 : Bool} (h : impl_isLetter b1 = some r0) : Ok E 110 [.val (vk .u8 b1)] [vb r0] [] := by
 refine oB (fn := Tryz.f110) Tryz.func110 rfl (by simp [Tryz.f110]) fun C hN hP => ?_
 have u : ∀ l, pinK [] l = true → pinB C.pin l = true := pO (by rw [hP]; rfl)
 have y : C.N = 9 := hN
 clear hN
 unfold impl_isLetter at h
 refine SWp.sR rfl (u _ rfl) fun K q => ?_
 refine wC rfl fun K q => ?_; simp [y]; refine q _ ?_; clear q
 refine wN (q _ ?_); clear q
 obtain ⟨v6, hj2, h⟩ := bS h
 refine SWp.seqRC rfl (u _ rfl) [2] [] (fun _ : Unit => ⟨[(2, .t (vb v6))], []⟩) (fun _ => True) (fun _ _ => ?_) fun K3 hK3 => ?_
 rotate_left
 ·refine wC rfl fun K q => ?_; simp [y]; refine q _ ?_; clear q
  iterate 2 (refine wC rfl fun K q => ?_; simp [y]; refine q _ ?_; clear q)
  rcases ite_or hj2 with ⟨hb4, hj2⟩ | ⟨hb5, hj2⟩
  ·have hb4s := hb4
   try simp at hb4s
   iterate 4 (refine wC rfl fun K q => ?_; simp [y, hb4, hb4s]; refine q _ ?_; clear q)
   refine wN ?_
   cases hj2
   exact hK3 _ () [] trivial (by simp [y, hb4, hb4s])
  ·have hb5s := hb5
   try simp at hb5s
   iterate 2 (refine wO fun K q => ?_; simp [y, hb5, hb5s]; refine q _ ?_; clear q)
   iterate 2 (refine wC rfl fun K q => ?_; simp [y, hb5, hb5s]; refine q _ ?_; clear q)
   refine wN ?_
   cases hj2
   exact hK3 _ () [] trivial (by simp [y, hb5, hb5s])
 cases h
 refine SWp.ret ?_
 simp [thenS, iB, res110]
theorem res111 : Tryz.f111.results.toList = [.tmp 2] := rfl
theorem ent111 : Enters E.P 111 := eO Tryz.func111 (by simp [Tryz.f111]) rfl
theorem impl_isFigure_ok (b1 : Int) {r0 : Bool} (h : impl_isFigure b1 = some r0) : Ok E 111 [.val (vk .u8 b1)] [vb r0] [] := by
 refine oB (fn := Tryz.f111) Tryz.func111 rfl (by simp [Tryz.f111]) fun C hN hP => ?_
 have u : ∀ l, pinK [] l = true → pinB C.pin l = true := pO (by rw [hP]; rfl)
 have y : C.N = 9 := hN
 clear hN
 unfold impl_isFigure at h
 refine SWp.sR rfl (u _ rfl) fun K q => ?_
 refine wC rfl fun K q => ?_; simp [y]; refine q _ ?_; clear q
 refine wN (q _ ?_); clear q
 obtain ⟨v6, hj2, h⟩ := bS h
 refine SWp.seqRC rfl (u _ rfl) [2] [] (fun _ : Unit => ⟨[(2, .t (vb v6))], []⟩) (fun _ => True) (fun _ _ => ?_) fun K3 hK3 => ?_
 rotate_left
 ·refine wC rfl fun K q => ?_; simp [y]; refine q _ ?_; clear q
  iterate 2 (refine wC rfl fun K q => ?_; simp [y]; refine q _ ?_; clear q)
  rcases ite_or hj2 with ⟨hb4, hj2⟩ | ⟨hb5, hj2⟩
  ·have hb4s := hb4
   try simp at hb4s
   iterate 4 (refine wC rfl fun K q => ?_; simp [y, hb4, hb4s]; refine q _ ?_; clear q)
   refine wN ?_
   cases hj2
   exact hK3 _ () [] trivial (by simp [y, hb4, hb4s])
  ·have hb5s := hb5
   try simp at hb5s
   iterate 2 (refine wO fun K q => ?_; simp [y, hb5, hb5s]; refine q _ ?_; clear q)
   iterate 2 (refine wC rfl fun K q => ?_; simp [y, hb5, hb5s]; refine q _ ?_; clear q)
   refine wN ?_
   cases hj2
   exact hK3 _ () [] trivial (by simp [y, hb5, hb5s])
 cases h
 refine SWp.ret ?_
 simp [thenS, iB, res111]
end Go.Proofs.T
namespace Go.Proofs
open Go.Shelf
def Tryz.lays146_ren : Go.Shelf.Ren := ⟨fun | 146 => 137 | 221 => 139 | 268 => 140 | 138 => 141 | 143 => 142 | 195 => 143 | 197 => 144 | 218 => 145 | 219 => 146 | 260 => 147 | 217 => 148 | 225 => 149 | 224 => 150 | 267 => 151 | 266 => 152 | 314 => 153 | n => n, fun | 9 => 9 | 31 => 128 | 3 => 3 | 4 => 4 | 0 => 0 | 105 => 144 | 21 => 21 | 5 => 5 | 46 => 108 | 119 => 148 | 139 => 151 | 138 => 150 | 146 => 152 | 51 => 125 | n => n, fun | 1 => 0 | 3 => 1 | 4 => 2 | n => n⟩
theorem Tryz.lays146 : Go.Proofs.Lays.n146 Tryz.prog Tryz.lays146_ren := {
 mixed := by kernel_rfl
 f138 := Tryz.func141.trans (congrArg some (by kernel_rfl))
 f143 := Tryz.func142.trans (congrArg some (by kernel_rfl))
 f146 := Tryz.func137.trans (congrArg some (by kernel_rfl))
 f195 := Tryz.func143.trans (congrArg some (by kernel_rfl))
 f197 := Tryz.func144.trans (congrArg some (by kernel_rfl))
 f217 := Tryz.func148.trans (congrArg some (by kernel_rfl))
 f218 := Tryz.func145.trans (congrArg some (by kernel_rfl))
 f219 := Tryz.func146.trans (congrArg some (by kernel_rfl))
 f221 := Tryz.func139.trans (congrArg some (by kernel_rfl))
 f224 := Tryz.func150.trans (congrArg some (by kernel_rfl))
 f225 := Tryz.func149.trans (congrArg some (by kernel_rfl))
 f260 := Tryz.func147.trans (congrArg some (by kernel_rfl))
 f266 := Tryz.func152.trans (congrArg some (by kernel_rfl))
 f267 := Tryz.func151.trans (congrArg some (by kernel_rfl))
 f268 := Tryz.func140.trans (congrArg some (by kernel_rfl))
 f314 := Tryz.func153.trans (congrArg some (by kernel_rfl))
 t0 := Tryz.underlying0
 a0 := Tryz.isAgg0
 z0 := Tryz.sizeOf0
 v0 := Tryz.zeroValue0
 t3 := Tryz.underlying3
 a3 := Tryz.isAgg3
 z3 := Tryz.sizeOf3
 v3 := Tryz.zeroValue3
 t4 := Tryz.underlying4
 a4 := Tryz.isAgg4
 z4 := Tryz.sizeOf4
 v4 := Tryz.zeroValue4
 t5 := Tryz.underlying5
 a5 := Tryz.isAgg5
 z5 := Tryz.sizeOf5
 v5 := Tryz.zeroValue5
 t9 := Tryz.underlying9
 a9 := Tryz.isAgg9
 z9 := Tryz.sizeOf9
 v9 := Tryz.zeroValue9
 t21 := Tryz.underlying21
 a21 := Tryz.isAgg21
 z21 := Tryz.sizeOf21
 v21 := Tryz.zeroValue21
 t31 := Tryz.underlying128
 a31 := Tryz.isAgg128
 z31 := Tryz.sizeOf128
 v31 := Tryz.zeroValue128
 t46 := Tryz.underlying108
 a46 := Tryz.isAgg108
 z46 := Tryz.sizeOf108
 v46 := Tryz.zeroValue108
 t51 := Tryz.underlying125
 a51 := Tryz.isAgg125
 z51 := Tryz.sizeOf125
 v51 := Tryz.zeroValue125
 t105 := Tryz.underlying144
 a105 := Tryz.isAgg144
 z105 := Tryz.sizeOf144
 v105 := Tryz.zeroValue144
 t119 := Tryz.underlying148
 a119 := Tryz.isAgg148
 z119 := Tryz.sizeOf148
 t138 := Tryz.underlying150
 a138 := Tryz.isAgg150
 z138 := Tryz.sizeOf150
 v138 := Tryz.zeroValue150
 t139 := Tryz.underlying151
 a139 := Tryz.isAgg151
 z139 := Tryz.sizeOf151
 v139 := Tryz.zeroValue151
 t146 := Tryz.underlying152
 a146 := Tryz.isAgg152
 z146 := Tryz.sizeOf152
 v146 := Tryz.zeroValue152
 g1 := by kernel_rfl
 g3 := by kernel_rfl
 g4 := by kernel_rfl }
open Go.RowKit Go.Lib in
theorem Tryz.strings_Split (s sep : ByteArray) (m : Int) (w : World) (hs : s.size < 4294967281) (hm : w.cell? ⟨0, 0, none⟩ = some (.int .i64 m)) (h1 : 1 ≤ sep.size) :
  Calls Tryz.prog 137 #[.string s, .string sep] w fun e w' =>
   e = .returned (.slice (some ⟨w.heap.size, 0, none⟩) (Lib.countB s sep + 1) (Lib.countB s sep + 1)) ∧ w' = w.alloc (.cells ((Lib.splitB sep 0 (Lib.countB s sep) s).map Value.string).toArray 9) := Any.strings_Split Tryz.lays146 (by kernel_rfl) s sep m w hs hm h1
end Go.Proofs
namespace Go.Proofs.T
open Go.OM
theorem ent137 : Enters E.P 137 := eO Tryz.func137 (by simp [Tryz.f137]) rfl
theorem maxLen_cell {w : World} (h : E.Gl w) : ∃ m, w.cell? ⟨0, 0, none⟩ = some (.int .i64 m) := by
 obtain ⟨cs, t, fr, h1, m, h2⟩ := h _ (List.mem_singleton.2 rfl)
 refine ⟨m, ?_⟩
 have h1' : w.heap[0]? = some (.cells cs t fr) := h1
 simp [World.cell?, h1', h2]
theorem strings_Split_ok (s sep : ByteArray) {r0 : List ByteArray} (h : strings_Split s sep = some r0) : Ok E 137 [.val (vs s), .val (vs sep)] [.sl true 1 (List.map vs r0)] [] := by
 unfold strings_Split at h
 split at h
 case isFalse => cases h
 rename_i hr
 injection h with h
 subst h
 have := ok_fresh (E := E) (f := 137) (ty := 9) (xs := [.string s, .string sep]) (es := (Lib.splitB sep 0 (Lib.countB s sep) s).map Value.string) (by simp [TA.OneCell]) fun w hw => by
  obtain ⟨m, hm⟩ := maxLen_cell hw
  have h1 := Tryz.strings_Split s sep m w hr.1 hm hr.2.1
  refine h1.mono fun e w' ⟨h2, h3⟩ => ⟨?_, h3⟩
  rw [h2, List.length_map, hr.2.2]
  try rfl
 rw [List.map_map] at this
 exact this
theorem res129 : Tryz.f129.results.toList = [.tmp 4] := rfl
theorem ent129 : Enters E.P 129 := eO Tryz.func129 (by simp [Tryz.f129]) rfl
theorem impl_oneOf_ok (s1 : ByteArray) (words2 : ByteArray) {r0 : Bool} (h : impl_oneOf s1 words2 = some r0) : Ok E 129 [.val (vs s1), .val (vs words2)] [vb r0] [] := by
 refine oB (fn := Tryz.f129) Tryz.func129 rfl (by simp [Tryz.f129]) fun C hN hP => ?_
 have hPB : ∀ l, pinK [] l = true → pinB C.pin l = true := pO (by rw [hP]; rfl)
 have hN' : C.N = 18 := hN
 clear hN
 unfold impl_oneOf at h
 refine SWp.sR rfl (hPB _ rfl) fun K hK => ?_
 refine wC rfl fun K hK => ?_; simp [hN']; refine hK _ ?_; clear hK
 refine wN (hK _ ?_); clear hK
 obtain ⟨j5, hj3, h⟩ := bS h
 refine SWp.seqC [] [] (fun v : Unit => ⟨[], []⟩) (fun v => j5 = Sum.inl v) (fun v hv => ?_) fun K4 hK4 => ?_
 rotate_left
 ·refine SWp.sR rfl (hPB _ rfl) fun K hK => ?_
  refine wC rfl fun K hK => ?_; simp [hN']; refine hK _ ?_; clear hK
  obtain ⟨r6, hc7, hj3⟩ := bS hj3
  refine wL [(.take, .tmp 7), (.take, .const (.string (⟨#[32]⟩ : ByteArray)))] rfl rfl ent137 (strings_Split_ok _ _ hc7) fun K hK => ?_; simp [hN']; refine hK _ ?_; clear hK
  iterate 2 (refine wC rfl fun K hK => ?_; simp [hN']; refine hK _ ?_; clear hK)
  refine wN (hK _ ?_); clear hK
  refine SWp.block ?_
  refine SWp.loopO [] [0, 8, 9, 10] [] (fun v : Int => ⟨[(0, .t (vs s1)), (8, .t (.sl true 1 (List.map vs r6))), (9, .t (vi (r6.length : Int))), (10, .t (vi v))], []⟩) (impl_oneOf_l1 s1 r6) _ 0 hj3 (by simp [hN']) ?_
  intro g s11 h9 ho10
  obtain ⟨v8, hg⟩ : ∃ y, y = g := ⟨_, rfl⟩
  subst hg
  simp only [impl_oneOf_l1] at h9
  try dsimp only
  refine SWp.sR rfl (hPB _ rfl) fun K hK => ?_
  refine wC rfl fun K hK => ?_; simp [hN']; refine hK _ ?_; clear hK
  refine wN (hK _ ?_); clear hK
  refine SWp.seq ?_
  rcases ite_or h9 with ⟨hb12, h9⟩ | ⟨hb13, h9⟩
  ·refine SWp.cT' (b := decide (v8 < (r6.length : Int))) (by simp) hb12 ?_
   refine SWp.skip ?_
   show SWp E C _ _ _
   refine SWp.seq ?_
   refine SWp.block ?_
   refine SWp.sR rfl (hPB _ rfl) fun K hK => ?_
   obtain ⟨e14, he14, h9⟩ := bS h9
   obtain ⟨he14a, he14b, he14c, he14d⟩ := gS he14
   iterate 3 (refine wC rfl fun K hK => ?_; simp [hN', he14a, he14b, he14c, he14d]; refine hK _ ?_; clear hK)
   refine wN (hK _ ?_); clear hK
   refine SWp.sR rfl (hPB _ rfl) fun K hK => ?_
   iterate 3 (refine wC rfl fun K hK => ?_; simp [hN']; refine hK _ ?_; clear hK)
   refine wN (hK _ ?_); clear hK
   rcases ite_or h9 with ⟨hb15, h9⟩ | ⟨hb16, h9⟩
   ·refine SWp.cT' (b := sEq e14 s1) (by simp) hb15 ?_
    refine SWp.sR rfl (hPB _ rfl) fun K hK => ?_
    refine wC rfl fun K hK => ?_; simp [hN']; refine hK _ ?_; clear hK
    refine wN (hK _ ?_); clear hK
    have h17 := congrArg some (ho10 _ (Option.some.inj h9).symm)
    cases h17
    try dsimp only at h
    cases h
    refine SWp.ret ?_
    simp [thenS, iB, res129]
   ·refine SWp.cF' (b := sEq e14 s1) (by simp) hb16 ?_
    refine SWp.skip ?_
    show SWp E C _ _ _
    refine SWp.reg rfl (hPB _ rfl) fun K hK => ?_
    iterate 2 (refine wC rfl fun K hK => ?_; simp [hN']; refine hK _ ?_; clear hK)
    refine wN (hK _ ?_); clear hK
    cases h9
    exact ⟨_, [], rfl, by simp [hN']⟩
  ·refine SWp.cF' (b := decide (v8 < (r6.length : Int))) (by simp) hb13 ?_
   refine SWp.exit ?_
   have h18 := congrArg some (ho10 _ (Option.some.inj h9).symm)
   cases h18
   exact hK4 _ _ [] rfl (by simp [hN'])
 subst hv
 obtain ⟨⟩ := v
 try dsimp only at h ⊢
 refine SWp.sR rfl (hPB _ rfl) fun K hK => ?_
 refine wC rfl fun K hK => ?_; simp [hN']; refine hK _ ?_; clear hK
 refine wN (hK _ ?_); clear hK
 cases h
 refine SWp.ret ?_
 simp [thenS, iB, res129]
theorem res112 : Tryz.f112.results.toList = [.tmp 2] := rfl
theorem ent112 : Enters E.P 112 := eO Tryz.func112 (by simp [Tryz.f112]) rfl
theorem impl_KeyWord_ok (s1 : ByteArray) {r0 : Bool} (h : impl_KeyWord s1 = some r0) : Ok E 112 [.val (vs s1)] [vb r0] [] := by
 refine oB (fn := Tryz.f112) Tryz.func112 rfl (by simp [Tryz.f112]) fun C hN hP => ?_
 have u : ∀ l, pinK [] l = true → pinB C.pin l = true := pO (by rw [hP]; rfl)
 have y : C.N = 5 := hN
 clear hN
 unfold impl_KeyWord at h
 refine SWp.sR rfl (u _ rfl) fun K q => ?_
 refine wC rfl fun K q => ?_; simp [y]; refine q _ ?_; clear q
 refine wN (q _ ?_); clear q
 refine SWp.sR rfl (u _ rfl) fun K q => ?_
 refine wC rfl fun K q => ?_; simp [y]; refine q _ ?_; clear q
 obtain ⟨r2, hc3, h⟩ := bS h
 refine wL [(.take, .tmp 3), (.take, .const (.string (⟨#[102, 110, 32, 108, 101, 116, 32, 105, 102, 32, 101, 108, 115, 101, 32, 119, 104, 105, 108, 101, 32, 112, 114, 105, 110, 116, 32, 100, 111, 32, 110, 101, 119, 32, 99, 108, 111, 110, 101, 32, 109, 117, 116, 32, 105, 110, 112, 117, 116, 32, 105, 110, 116, 32, 98, 111, 120, 32, 114, 101, 116]⟩ : ByteArray)))] rfl rfl ent129 (impl_oneOf_ok _ _ hc3) fun K q => ?_; simp [y]; refine q _ ?_; clear q
 refine wC rfl fun K q => ?_; simp [y]; refine q _ ?_; clear q
 refine wN (q _ ?_); clear q
 cases h
 refine SWp.ret ?_
 simp [thenS, iB, res112]
theorem res94 : Tryz.f94.results.toList = [.tmp 2] := rfl
theorem ent94 : Enters E.P 94 := eO Tryz.func94 (by simp [Tryz.f94]) rfl
theorem impl_NameOk_ok (s1 : ByteArray) {r0 : Bool} (h : impl_NameOk s1 = some r0) : Ok E 94 [.val (vs s1)] [vb r0] [] := by
 refine oB (fn := Tryz.f94) Tryz.func94 rfl (by simp [Tryz.f94]) fun C hN hP => ?_
 have hPB : ∀ l, pinK [] l = true → pinB C.pin l = true := pO (by rw [hP]; rfl)
 have hN' : C.N = 35 := hN
 clear hN
 unfold impl_NameOk at h
 refine SWp.sR rfl (hPB _ rfl) fun K hK => ?_
 refine wC rfl fun K hK => ?_; simp [hN']; refine hK _ ?_; clear hK
 refine wN (hK _ ?_); clear hK
 refine SWp.seq ?_
 obtain ⟨v11, hj2, h⟩ := bS h
 refine SWp.seqRC rfl (hPB _ rfl) [0, 13] [] (fun _ : Unit => ⟨[(0, .t (vs s1)), (13, .t (vb v11))], []⟩) (fun _ => True) (fun _ _ => ?_) fun K3 hK3 => ?_
 rotate_left
 ·refine wC rfl fun K hK => ?_; simp [hN']; refine hK _ ?_; clear hK
  refine wC rfl fun K hK => ?_; simp [hN']; refine hK _ ?_; clear hK
  obtain ⟨r4, hc5, hj2⟩ := bS hj2
  refine wL [(.take, .tmp 5), (.take, .const (.int .i64 1)), (.take, .const (.int .i64 8))] rfl rfl ent52 (impl_in_ok _ _ _ hc5) fun K hK => ?_; simp [hN']; refine hK _ ?_; clear hK
  iterate 2 (refine wC rfl fun K hK => ?_; simp [hN']; refine hK _ ?_; clear hK)
  rcases ite_or hj2 with ⟨hb6, hj2⟩ | ⟨hb7, hj2⟩
  ·have hb6s := hb6
   try simp at hb6s
   iterate 4 (refine wO fun K hK => ?_; simp [hN', hb6, hb6s]; refine hK _ ?_; clear hK)
   refine wC rfl fun K hK => ?_; simp [hN', hb6, hb6s]; refine hK _ ?_; clear hK
   refine wN ?_
   cases hj2
   exact hK3 _ () [] trivial (by simp [hN', hb6, hb6s])
  ·have hb7s := hb7
   try simp at hb7s
   refine wC rfl fun K hK => ?_; simp [hN', hb7, hb7s]; refine hK _ ?_; clear hK
   obtain ⟨c8, hc8, hj2⟩ := bS hj2
   obtain ⟨hc8a, hc8b, hc8c⟩ := sAt_some hc8
   have hc8e : 0 < s1.size := by omega
   refine wC rfl fun K hK => ?_; simp [hN', hb7, hb7s, hc8a, hc8b, hc8c, hc8e]; refine hK _ ?_; clear hK
   obtain ⟨r9, hc10, hj2⟩ := bS hj2
   refine wL [(.take, .tmp 10)] rfl rfl ent110 (impl_isLetter_ok _ hc10) fun K hK => ?_; simp [hN', hb7, hb7s, hc8a, hc8b, hc8c, hc8e]; refine hK _ ?_; clear hK
   iterate 2 (refine wC rfl fun K hK => ?_; simp [hN', hb7, hb7s, hc8a, hc8b, hc8c, hc8e]; refine hK _ ?_; clear hK)
   refine wN ?_
   cases hj2
   exact hK3 _ () [] trivial (by simp [hN', hb7, hb7s, hc8a, hc8b, hc8c, hc8e])
 rcases ite_or h with ⟨hb12, h⟩ | ⟨hb13, h⟩
 ·refine SWp.cT' (b := v11) (by simp) hb12 ?_
  refine SWp.sR rfl (hPB _ rfl) fun K hK => ?_
  refine wC rfl fun K hK => ?_; simp [hN']; refine hK _ ?_; clear hK
  refine wN (hK _ ?_); clear hK
  cases h
  refine SWp.ret ?_
  simp [thenS, iB, res94]
 ·refine SWp.cF' (b := v11) (by simp) hb13 ?_
  refine SWp.skip ?_
  show SWp E C _ _ _
  obtain ⟨j16, hj14, h⟩ := bS h
  refine SWp.seqC [0] [] (fun v : Unit => ⟨[(0, .t (vs s1))], []⟩) (fun v => j16 = Sum.inl v) (fun v hv => ?_) fun K15 hK15 => ?_
  rotate_left
  ·refine SWp.sR rfl (hPB _ rfl) fun K hK => ?_
   refine wC rfl fun K hK => ?_; simp [hN']; refine hK _ ?_; clear hK
   refine wN (hK _ ?_); clear hK
   refine SWp.block ?_
   refine SWp.loopO [] [0, 3] [] (fun v : Int => ⟨[(0, .t (vs s1)), (3, .t (vi v))], []⟩) (impl_NameOk_l1 s1) _ 0 hj14 (by simp [hN']) ?_
   intro g s20 h18 ho19
   obtain ⟨i17, hg⟩ : ∃ y, y = g := ⟨_, rfl⟩
   subst hg
   simp only [impl_NameOk_l1] at h18
   try dsimp only
   refine SWp.seq ?_
   refine SWp.sR rfl (hPB _ rfl) fun K hK => ?_
   iterate 4 (refine wC rfl fun K hK => ?_; simp [hN']; refine hK _ ?_; clear hK)
   refine wN (hK _ ?_); clear hK
   rcases ite_or h18 with ⟨hb21, h18⟩ | ⟨hb22, h18⟩
   ·refine SWp.cT' (b := decide (i17 < (s1.size : Int))) (by simp) hb21 ?_
    refine SWp.skip ?_
    show SWp E C _ _ _
    refine SWp.seq ?_
    refine SWp.block ?_
    obtain ⟨v32, hj23, h18⟩ := bS h18
    refine SWp.seqRC rfl (hPB _ rfl) [0, 3, 31] [] (fun _ : Unit => ⟨[(0, .t (vs s1)), (3, .t (vi i17)), (31, .t (vb v32))], []⟩) (fun _ => True) (fun _ _ => ?_) fun K24 hK24 => ?_
    rotate_left
    ·refine wC rfl fun K hK => ?_; simp [hN']; refine hK _ ?_; clear hK
     refine wC rfl fun K hK => ?_; simp [hN']; refine hK _ ?_; clear hK
     obtain ⟨c25, hc25, hj23⟩ := bS hj23
     obtain ⟨hc25a, hc25b, hc25c⟩ := sAt_some hc25
     refine wC rfl fun K hK => ?_; simp [hN', hc25a, hc25b, hc25c]; refine hK _ ?_; clear hK
     obtain ⟨r26, hc27, hj23⟩ := bS hj23
     refine wL [(.take, .tmp 22)] rfl rfl ent110 (impl_isLetter_ok _ hc27) fun K hK => ?_; simp [hN', hc25a, hc25b, hc25c]; refine hK _ ?_; clear hK
     iterate 2 (refine wC rfl fun K hK => ?_; simp [hN', hc25a, hc25b, hc25c]; refine hK _ ?_; clear hK)
     rcases ite_or hj23 with ⟨hb28, hj23⟩ | ⟨hb29, hj23⟩
     ·have hb28s := hb28
      try simp at hb28s
      iterate 3 (refine wC rfl fun K hK => ?_; simp [hN', hc25a, hc25b, hc25c, hb28, hb28s]; refine hK _ ?_; clear hK)
      obtain ⟨r30, hc31, hj23⟩ := bS hj23
      refine wL [(.take, .tmp 28)] rfl rfl ent111 (impl_isFigure_ok _ hc31) fun K hK => ?_; simp [hN', hc25a, hc25b, hc25c, hb28, hb28s]; refine hK _ ?_; clear hK
      iterate 2 (refine wC rfl fun K hK => ?_; simp [hN', hc25a, hc25b, hc25c, hb28, hb28s]; refine hK _ ?_; clear hK)
      refine wN ?_
      cases hj23
      exact hK24 _ () [] trivial (by simp [hN', hc25a, hc25b, hc25c, hb28, hb28s])
     ·have hb29s := hb29
      try simp at hb29s
      iterate 5 (refine wO fun K hK => ?_; simp [hN', hc25a, hc25b, hc25c, hb29, hb29s]; refine hK _ ?_; clear hK)
      refine wC rfl fun K hK => ?_; simp [hN', hc25a, hc25b, hc25c, hb29, hb29s]; refine hK _ ?_; clear hK
      refine wN ?_
      cases hj23
      exact hK24 _ () [] trivial (by simp [hN', hc25a, hc25b, hc25c, hb29, hb29s])
    rcases ite_or h18 with ⟨hb33, h18⟩ | ⟨hb34, h18⟩
    ·refine SWp.cT' (b := v32) (by simp) hb33 ?_
     refine SWp.sR rfl (hPB _ rfl) fun K hK => ?_
     refine wC rfl fun K hK => ?_; simp [hN']; refine hK _ ?_; clear hK
     refine wN (hK _ ?_); clear hK
     have h35 := congrArg some (ho19 _ (Option.some.inj h18).symm)
     cases h35
     try dsimp only at h
     cases h
     refine SWp.ret ?_
     simp [thenS, iB, res94]
    ·refine SWp.cF' (b := v32) (by simp) hb34 ?_
     refine SWp.skip ?_
     show SWp E C _ _ _
     refine SWp.reg rfl (hPB _ rfl) fun K hK => ?_
     iterate 3 (refine wC rfl fun K hK => ?_; simp [hN']; refine hK _ ?_; clear hK)
     refine wN (hK _ ?_); clear hK
     cases h18
     exact ⟨_, [], rfl, by simp [hN']⟩
   ·refine SWp.cF' (b := decide (i17 < (s1.size : Int))) (by simp) hb22 ?_
    refine SWp.exit ?_
    have h36 := congrArg some (ho19 _ (Option.some.inj h18).symm)
    cases h36
    exact hK15 _ _ [] rfl (by simp [hN'])
  subst hv
  obtain ⟨⟩ := v
  try dsimp only at h ⊢
  refine SWp.sR rfl (hPB _ rfl) fun K hK => ?_
  refine wC rfl fun K hK => ?_; simp [hN']; refine hK _ ?_; clear hK
  obtain ⟨r37, hc38, h⟩ := bS h
  refine wL [(.take, .tmp 32)] rfl rfl ent112 (impl_KeyWord_ok _ hc38) fun K hK => ?_; simp [hN']; refine hK _ ?_; clear hK
  iterate 2 (refine wC rfl fun K hK => ?_; simp [hN']; refine hK _ ?_; clear hK)
  refine wN (hK _ ?_); clear hK
  cases h
  refine SWp.ret ?_
  simp [thenS, iB, res94]
theorem res126 : Tryz.f126.results.toList = [.tmp 2, .tmp 3] := rfl
theorem ent126 : Enters E.P 126 := eO Tryz.func126 (by simp [Tryz.f126]) rfl
theorem impl_shape_ok (kind1 : Int) {r0 : Int} {r1 : Int} (h : impl_shape kind1 = some (r0, r1)) : Ok E 126 [.val (vi kind1)] [vi r0, vi r1] [] := by
 refine oB (fn := Tryz.f126) Tryz.func126 rfl (by simp [Tryz.f126]) fun C hN hP => ?_
 have u : ∀ l, pinK [] l = true → pinB C.pin l = true := pO (by rw [hP]; rfl)
 have y : C.N = 23 := hN
 clear hN
 unfold impl_shape at h
 refine SWp.sR rfl (u _ rfl) fun K q => ?_
 iterate 2 (refine wC rfl fun K q => ?_; simp [y]; refine q _ ?_; clear q)
 refine wN (q _ ?_); clear q
 refine SWp.seq ?_
 refine SWp.sR rfl (u _ rfl) fun K q => ?_
 refine wC rfl fun K q => ?_; simp [y]; refine q _ ?_; clear q
 refine wN (q _ ?_); clear q
 refine SWp.block ?_
 obtain ⟨v15, hj2, h⟩ := bS h
 refine SWp.seqC [4, 5] [] (fun _ : Unit => ⟨[(4, .t (vi kind1)), (5, .t (vb v15))], []⟩) (fun _ => True) (fun _ _ => ?_) fun K3 hK3 => ?_
 rotate_left
 ·refine SWp.sR rfl (u _ rfl) fun K q => ?_
  iterate 2 (refine wC rfl fun K q => ?_; simp [y]; refine q _ ?_; clear q)
  refine wN (q _ ?_); clear q
  rcases ite_or hj2 with ⟨hb5, hj2⟩ | ⟨hb6, hj2⟩
  ·refine SWp.cT' (b := kind1 == 8) (by simp) hb5 ?_
   refine SWp.skip ?_
   cases hj2
   exact hK3 _ () [] trivial (by simp [y])
  ·refine SWp.cF' (b := kind1 == 8) (by simp) hb6 ?_
   refine SWp.sR rfl (u _ rfl) fun K q => ?_
   iterate 2 (refine wC rfl fun K q => ?_; simp [y]; refine q _ ?_; clear q)
   refine wN (q _ ?_); clear q
   rcases ite_or hj2 with ⟨hb7, hj2⟩ | ⟨hb8, hj2⟩
   ·refine SWp.cT' (b := kind1 == 13) (by simp) hb7 ?_
    refine SWp.skip ?_
    cases hj2
    exact hK3 _ () [] trivial (by simp [y])
   ·refine SWp.cF' (b := kind1 == 13) (by simp) hb8 ?_
    refine SWp.sR rfl (u _ rfl) fun K q => ?_
    iterate 2 (refine wC rfl fun K q => ?_; simp [y]; refine q _ ?_; clear q)
    refine wN (q _ ?_); clear q
    rcases ite_or hj2 with ⟨hb9, hj2⟩ | ⟨hb10, hj2⟩
    ·refine SWp.cT' (b := kind1 == 14) (by simp) hb9 ?_
     refine SWp.skip ?_
     cases hj2
     exact hK3 _ () [] trivial (by simp [y])
    ·refine SWp.cF' (b := kind1 == 14) (by simp) hb10 ?_
     refine SWp.sR rfl (u _ rfl) fun K q => ?_
     iterate 2 (refine wC rfl fun K q => ?_; simp [y]; refine q _ ?_; clear q)
     refine wN (q _ ?_); clear q
     rcases ite_or hj2 with ⟨hb11, hj2⟩ | ⟨hb12, hj2⟩
     ·refine SWp.cT' (b := kind1 == 15) (by simp) hb11 ?_
      refine SWp.skip ?_
      cases hj2
      exact hK3 _ () [] trivial (by simp [y])
     ·refine SWp.cF' (b := kind1 == 15) (by simp) hb12 ?_
      refine SWp.sR rfl (u _ rfl) fun K q => ?_
      iterate 2 (refine wC rfl fun K q => ?_; simp [y]; refine q _ ?_; clear q)
      refine wN (q _ ?_); clear q
      rcases ite_or hj2 with ⟨hb13, hj2⟩ | ⟨hb14, hj2⟩
      ·refine SWp.cT' (b := kind1 == 18) (by simp) hb13 ?_
       refine SWp.skip ?_
       cases hj2
       exact hK3 _ () [] trivial (by simp [y])
      ·refine SWp.cF' (b := kind1 == 18) (by simp) hb14 ?_
       refine SWp.reg rfl (u _ rfl) fun K q => ?_
       iterate 2 (refine wC rfl fun K q => ?_; simp [y]; refine q _ ?_; clear q)
       refine wN (q _ ?_); clear q
       cases hj2
       exact hK3 _ () [] trivial (by simp [y])
 rcases ite_or h with ⟨hb16, h⟩ | ⟨hb17, h⟩
 ·refine SWp.cT' (b := v15) (by simp) hb16 ?_
  refine SWp.sR rfl (u _ rfl) fun K q => ?_
  iterate 2 (refine wC rfl fun K q => ?_; simp [y]; refine q _ ?_; clear q)
  refine wN (q _ ?_); clear q
  cases h
  refine SWp.ret ?_
  simp [thenS, iB, res126]
 ·refine SWp.cF' (b := v15) (by simp) hb17 ?_
  obtain ⟨v27, hj18, h⟩ := bS h
  refine SWp.seqC [4, 12] [] (fun _ : Unit => ⟨[(4, .t (vi kind1)), (12, .t (vb v27))], []⟩) (fun _ => True) (fun _ _ => ?_) fun K19 hK19 => ?_
  rotate_left
  ·refine SWp.sR rfl (u _ rfl) fun K q => ?_
   iterate 2 (refine wC rfl fun K q => ?_; simp [y]; refine q _ ?_; clear q)
   refine wN (q _ ?_); clear q
   rcases ite_or hj18 with ⟨hb21, hj18⟩ | ⟨hb22, hj18⟩
   ·refine SWp.cT' (b := kind1 == 9) (by simp) hb21 ?_
    refine SWp.skip ?_
    cases hj18
    exact hK19 _ () [] trivial (by simp [y])
   ·refine SWp.cF' (b := kind1 == 9) (by simp) hb22 ?_
    refine SWp.sR rfl (u _ rfl) fun K q => ?_
    iterate 2 (refine wC rfl fun K q => ?_; simp [y]; refine q _ ?_; clear q)
    refine wN (q _ ?_); clear q
    rcases ite_or hj18 with ⟨hb23, hj18⟩ | ⟨hb24, hj18⟩
    ·refine SWp.cT' (b := kind1 == 10) (by simp) hb23 ?_
     refine SWp.skip ?_
     cases hj18
     exact hK19 _ () [] trivial (by simp [y])
    ·refine SWp.cF' (b := kind1 == 10) (by simp) hb24 ?_
     refine SWp.sR rfl (u _ rfl) fun K q => ?_
     iterate 2 (refine wC rfl fun K q => ?_; simp [y]; refine q _ ?_; clear q)
     refine wN (q _ ?_); clear q
     rcases ite_or hj18 with ⟨hb25, hj18⟩ | ⟨hb26, hj18⟩
     ·refine SWp.cT' (b := kind1 == 11) (by simp) hb25 ?_
      refine SWp.skip ?_
      cases hj18
      exact hK19 _ () [] trivial (by simp [y])
     ·refine SWp.cF' (b := kind1 == 11) (by simp) hb26 ?_
      refine SWp.reg rfl (u _ rfl) fun K q => ?_
      iterate 2 (refine wC rfl fun K q => ?_; simp [y]; refine q _ ?_; clear q)
      refine wN (q _ ?_); clear q
      cases hj18
      exact hK19 _ () [] trivial (by simp [y])
  rcases ite_or h with ⟨hb28, h⟩ | ⟨hb29, h⟩
  ·refine SWp.cT' (b := v27) (by simp) hb28 ?_
   refine SWp.sR rfl (u _ rfl) fun K q => ?_
   iterate 2 (refine wC rfl fun K q => ?_; simp [y]; refine q _ ?_; clear q)
   refine wN (q _ ?_); clear q
   cases h
   refine SWp.ret ?_
   simp [thenS, iB, res126]
  ·refine SWp.cF' (b := v27) (by simp) hb29 ?_
   refine SWp.sR rfl (u _ rfl) fun K q => ?_
   iterate 2 (refine wC rfl fun K q => ?_; simp [y]; refine q _ ?_; clear q)
   refine wN (q _ ?_); clear q
   rcases ite_or h with ⟨hb30, h⟩ | ⟨hb31, h⟩
   ·refine SWp.cT' (b := kind1 == 16) (by simp) hb30 ?_
    refine SWp.sR rfl (u _ rfl) fun K q => ?_
    iterate 2 (refine wC rfl fun K q => ?_; simp [y]; refine q _ ?_; clear q)
    refine wN (q _ ?_); clear q
    cases h
    refine SWp.ret ?_
    simp [thenS, iB, res126]
   ·refine SWp.cF' (b := kind1 == 16) (by simp) hb31 ?_
    refine SWp.sR rfl (u _ rfl) fun K q => ?_
    iterate 2 (refine wC rfl fun K q => ?_; simp [y]; refine q _ ?_; clear q)
    refine wN (q _ ?_); clear q
    rcases ite_or h with ⟨hb32, h⟩ | ⟨hb33, h⟩
    ·refine SWp.cT' (b := kind1 == 12) (by simp) hb32 ?_
     refine SWp.sR rfl (u _ rfl) fun K q => ?_
     iterate 2 (refine wC rfl fun K q => ?_; simp [y]; refine q _ ?_; clear q)
     refine wN (q _ ?_); clear q
     cases h
     refine SWp.ret ?_
     simp [thenS, iB, res126]
    ·refine SWp.cF' (b := kind1 == 12) (by simp) hb33 ?_
     refine SWp.sR rfl (u _ rfl) fun K q => ?_
     iterate 2 (refine wC rfl fun K q => ?_; simp [y]; refine q _ ?_; clear q)
     refine wN (q _ ?_); clear q
     rcases ite_or h with ⟨hb34, h⟩ | ⟨hb35, h⟩
     ·refine SWp.cT' (b := kind1 == 20) (by simp) hb34 ?_
      refine SWp.sR rfl (u _ rfl) fun K q => ?_
      iterate 2 (refine wC rfl fun K q => ?_; simp [y]; refine q _ ?_; clear q)
      refine wN (q _ ?_); clear q
      cases h
      refine SWp.ret ?_
      simp [thenS, iB, res126]
     ·refine SWp.cF' (b := kind1 == 20) (by simp) hb35 ?_
      refine SWp.skip ?_
      show SWp E C _ _ _
      refine SWp.sR rfl (u _ rfl) fun K q => ?_
      iterate 2 (refine wC rfl fun K q => ?_; simp [y]; refine q _ ?_; clear q)
      refine wN (q _ ?_); clear q
      cases h
      refine SWp.ret ?_
      simp [thenS, iB, res126]
theorem res95 : Tryz.f95.results.toList = [.tmp 2] := rfl
theorem ent95 : Enters E.P 95 := eO Tryz.func95 (by simp [Tryz.f95]) rfl
theorem impl_isValue_ok (kind1 : Int) {r0 : Bool} (h : impl_isValue kind1 = some r0) : Ok E 95 [.val (vi kind1)] [vb r0] [] := by
 refine oB (fn := Tryz.f95) Tryz.func95 rfl (by simp [Tryz.f95]) fun C hN hP => ?_
 have u : ∀ l, pinK [] l = true → pinB C.pin l = true := pO (by rw [hP]; rfl)
 have y : C.N = 5 := hN
 clear hN
 unfold impl_isValue at h
 refine SWp.sR rfl (u _ rfl) fun K q => ?_
 refine wC rfl fun K q => ?_; simp [y]; refine q _ ?_; clear q
 refine wN (q _ ?_); clear q
 refine SWp.sR rfl (u _ rfl) fun K q => ?_
 refine wC rfl fun K q => ?_; simp [y]; refine q _ ?_; clear q
 obtain ⟨r2, hc3, h⟩ := bS h
 refine wL [(.take, .tmp 3), (.take, .const (.int .i64 1)), (.take, .const (.int .i64 12))] rfl rfl ent52 (impl_in_ok _ _ _ hc3) fun K q => ?_; simp [y]; refine q _ ?_; clear q
 refine wC rfl fun K q => ?_; simp [y]; refine q _ ?_; clear q
 refine wN (q _ ?_); clear q
 cases h
 refine SWp.ret ?_
 simp [thenS, iB, res95]
theorem res136 : Tryz.f136.results.toList = [.tmp 2] := rfl
theorem ent136 : Enters E.P 136 := eO Tryz.func136 (by simp [Tryz.f136]) rfl
theorem impl_isStep_ok (kind1 : Int) {r0 : Bool} (h : impl_isStep kind1 = some r0) : Ok E 136 [.val (vi kind1)] [vb r0] [] := by
 refine oB (fn := Tryz.f136) Tryz.func136 rfl (by simp [Tryz.f136]) fun C hN hP => ?_
 have u : ∀ l, pinK [] l = true → pinB C.pin l = true := pO (by rw [hP]; rfl)
 have y : C.N = 5 := hN
 clear hN
 unfold impl_isStep at h
 refine SWp.sR rfl (u _ rfl) fun K q => ?_
 refine wC rfl fun K q => ?_; simp [y]; refine q _ ?_; clear q
 refine wN (q _ ?_); clear q
 refine SWp.sR rfl (u _ rfl) fun K q => ?_
 refine wC rfl fun K q => ?_; simp [y]; refine q _ ?_; clear q
 obtain ⟨r2, hc3, h⟩ := bS h
 refine wL [(.take, .tmp 3), (.take, .const (.int .i64 13)), (.take, .const (.int .i64 19))] rfl rfl ent52 (impl_in_ok _ _ _ hc3) fun K q => ?_; simp [y]; refine q _ ?_; clear q
 refine wC rfl fun K q => ?_; simp [y]; refine q _ ?_; clear q
 refine wN (q _ ?_); clear q
 cases h
 refine SWp.ret ?_
 simp [thenS, iB, res136]
theorem res127 : Tryz.f127.results.toList = [.tmp 6] := rfl
theorem ent127 : Enters E.P 127 := eO Tryz.func127 (by simp [Tryz.f127]) rfl
theorem impl_kidFits_ok (kind1 : Int) (i2 : Int) (kid3 : Int) {r0 : Bool} (h : impl_kidFits kind1 i2 kid3 = some r0) : Ok E 127 [.val (vi kind1), .val (vi i2), .val (vi kid3)] [vb r0] [] := by
 refine oB (fn := Tryz.f127) Tryz.func127 rfl (by simp [Tryz.f127]) fun C hN hP => ?_
 have u : ∀ l, pinK [] l = true → pinB C.pin l = true := pO (by rw [hP]; rfl)
 have y : C.N = 32 := hN
 clear hN
 unfold impl_kidFits at h
 refine SWp.sR rfl (u _ rfl) fun K q => ?_
 refine wC rfl fun K q => ?_; simp [y]; refine q _ ?_; clear q
 refine wN (q _ ?_); clear q
 refine SWp.seq ?_
 refine SWp.block ?_
 refine SWp.sR rfl (u _ rfl) fun K q => ?_
 iterate 3 (refine wC rfl fun K q => ?_; simp [y]; refine q _ ?_; clear q)
 refine wN (q _ ?_); clear q
 rcases ite_or h with ⟨hb4, h⟩ | ⟨hb5, h⟩
 ·refine SWp.cT' (b := kind1 == 20) (by simp) hb4 ?_
  refine SWp.sR rfl (u _ rfl) fun K q => ?_
  refine wC rfl fun K q => ?_; simp [y]; refine q _ ?_; clear q
  obtain ⟨r6, hc7, h⟩ := bS h
  refine wL [(.take, .tmp 10)] rfl rfl ent136 (impl_isStep_ok _ hc7) fun K q => ?_; simp [y]; refine q _ ?_; clear q
  refine wC rfl fun K q => ?_; simp [y]; refine q _ ?_; clear q
  refine wN (q _ ?_); clear q
  cases h
  refine SWp.ret ?_
  simp [thenS, iB, res127]
 ·refine SWp.cF' (b := kind1 == 20) (by simp) hb5 ?_
  obtain ⟨v14, hj8, h⟩ := bS h
  refine SWp.seqRC rfl (u _ rfl) [0, 2, 12] [] (fun _ : Unit => ⟨[(0, .t (vi kind1)), (2, .t (vi kid3)), (12, .t (vb v14))], []⟩) (fun _ => True) (fun _ _ => ?_) fun K9 hK9 => ?_
  rotate_left
  ·refine wC rfl fun K q => ?_; simp [y]; refine q _ ?_; clear q
   iterate 2 (refine wC rfl fun K q => ?_; simp [y]; refine q _ ?_; clear q)
   rcases ite_or hj8 with ⟨hb10, hj8⟩ | ⟨hb11, hj8⟩
   ·have hb10s := hb10
    try simp at hb10s
    iterate 2 (refine wO fun K q => ?_; simp [y, hb10, hb10s]; refine q _ ?_; clear q)
    iterate 6 (refine wC rfl fun K q => ?_; simp [y, hb10, hb10s]; refine q _ ?_; clear q)
    refine wN ?_
    cases hj8
    exact hK9 _ () [] trivial (by simp [y, hb10, hb10s])
   ·have hb11s := hb11
    try simp at hb11s
    iterate 4 (refine wC rfl fun K q => ?_; simp [y, hb11, hb11s]; refine q _ ?_; clear q)
    rcases ite_or hj8 with ⟨hb12, hj8⟩ | ⟨hb13, hj8⟩
    ·have hb12s := hb12
     try simp at hb12s
     iterate 4 (refine wC rfl fun K q => ?_; simp [y, hb11, hb11s, hb12, hb12s]; refine q _ ?_; clear q)
     refine wN ?_
     cases hj8
     exact hK9 _ () [] trivial (by simp [y, hb11, hb11s, hb12, hb12s])
    ·have hb13s := hb13
     try simp at hb13s
     iterate 2 (refine wO fun K q => ?_; simp [y, hb11, hb11s, hb13, hb13s]; refine q _ ?_; clear q)
     iterate 2 (refine wC rfl fun K q => ?_; simp [y, hb11, hb11s, hb13, hb13s]; refine q _ ?_; clear q)
     refine wN ?_
     cases hj8
     exact hK9 _ () [] trivial (by simp [y, hb11, hb11s, hb13, hb13s])
  rcases ite_or h with ⟨hb15, h⟩ | ⟨hb16, h⟩
  ·refine SWp.cT' (b := v14) (by simp) hb15 ?_
   refine SWp.sR rfl (u _ rfl) fun K q => ?_
   iterate 3 (refine wC rfl fun K q => ?_; simp [y]; refine q _ ?_; clear q)
   refine wN (q _ ?_); clear q
   cases h
   refine SWp.ret ?_
   simp [thenS, iB, res127]
  ·refine SWp.cF' (b := v14) (by simp) hb16 ?_
   refine SWp.sR rfl (u _ rfl) fun K q => ?_
   iterate 3 (refine wC rfl fun K q => ?_; simp [y]; refine q _ ?_; clear q)
   refine wN (q _ ?_); clear q
   rcases ite_or h with ⟨hb17, h⟩ | ⟨hb18, h⟩
   ·refine SWp.cT' (b := kind1 == 19) (by simp) hb17 ?_
    refine SWp.sR rfl (u _ rfl) fun K q => ?_
    iterate 3 (refine wC rfl fun K q => ?_; simp [y]; refine q _ ?_; clear q)
    refine wN (q _ ?_); clear q
    cases h
    refine SWp.ret ?_
    simp [thenS, iB, res127]
   ·refine SWp.cF' (b := kind1 == 19) (by simp) hb18 ?_
    refine SWp.skip ?_
    show SWp E C _ _ _
    refine SWp.sR rfl (u _ rfl) fun K q => ?_
    refine wC rfl fun K q => ?_; simp [y]; refine q _ ?_; clear q
    obtain ⟨r19, hc20, h⟩ := bS h
    refine wL [(.take, .tmp 30)] rfl rfl ent95 (impl_isValue_ok _ hc20) fun K q => ?_; simp [y]; refine q _ ?_; clear q
    refine wC rfl fun K q => ?_; simp [y]; refine q _ ?_; clear q
    refine wN (q _ ?_); clear q
    cases h
    refine SWp.ret ?_
    simp [thenS, iB, res127]
theorem res128 : Tryz.f128.results.toList = [.tmp 2] := rfl
theorem ent128 : Enters E.P 128 := eO Tryz.func128 (by simp [Tryz.f128]) rfl
theorem impl_hasName_ok (kind1 : Int) {r0 : Bool} (h : impl_hasName kind1 = some r0) : Ok E 128 [.val (vi kind1)] [vb r0] [] := by
 refine oB (fn := Tryz.f128) Tryz.func128 rfl (by simp [Tryz.f128]) fun C hN hP => ?_
 have u : ∀ l, pinK [] l = true → pinB C.pin l = true := pO (by rw [hP]; rfl)
 have y : C.N = 9 := hN
 clear hN
 unfold impl_hasName at h
 refine SWp.sR rfl (u _ rfl) fun K q => ?_
 refine wC rfl fun K q => ?_; simp [y]; refine q _ ?_; clear q
 refine wN (q _ ?_); clear q
 obtain ⟨v10, hj2, h⟩ := bS h
 refine SWp.seqRC rfl (u _ rfl) [2] [] (fun _ : Unit => ⟨[(2, .t (vb v10))], []⟩) (fun _ => True) (fun _ _ => ?_) fun K3 hK3 => ?_
 rotate_left
 ·refine wC rfl fun K q => ?_; simp [y]; refine q _ ?_; clear q
  obtain ⟨r4, hc5, hj2⟩ := bS hj2
  refine wL [(.take, .tmp 3), (.take, .const (.int .i64 2)), (.take, .const (.int .i64 6))] rfl rfl ent52 (impl_in_ok _ _ _ hc5) fun K q => ?_; simp [y]; refine q _ ?_; clear q
  refine wC rfl fun K q => ?_; simp [y]; refine q _ ?_; clear q
  rcases ite_or hj2 with ⟨hb6, hj2⟩ | ⟨hb7, hj2⟩
  ·have hb6s := hb6
   try simp at hb6s
   iterate 2 (refine wO fun K q => ?_; simp [y, hb6, hb6s]; refine q _ ?_; clear q)
   iterate 2 (refine wC rfl fun K q => ?_; simp [y, hb6, hb6s]; refine q _ ?_; clear q)
   refine wN ?_
   cases hj2
   exact hK3 _ () [] trivial (by simp [y, hb6, hb6s])
  ·have hb7s := hb7
   try simp at hb7s
   refine wC rfl fun K q => ?_; simp [y, hb7, hb7s]; refine q _ ?_; clear q
   obtain ⟨r8, hc9, hj2⟩ := bS hj2
   refine wL [(.take, .tmp 6), (.take, .const (.int .i64 12)), (.take, .const (.int .i64 15))] rfl rfl ent52 (impl_in_ok _ _ _ hc9) fun K q => ?_; simp [y, hb7, hb7s]; refine q _ ?_; clear q
   iterate 2 (refine wC rfl fun K q => ?_; simp [y, hb7, hb7s]; refine q _ ?_; clear q)
   refine wN ?_
   cases hj2
   exact hK3 _ () [] trivial (by simp [y, hb7, hb7s])
 cases h
 refine SWp.ret ?_
 simp [thenS, iB, res128]
theorem res109 : Tryz.f109.results.toList = [.tmp 4] := rfl
theorem ent109 : Enters E.P 109 := eO Tryz.func109 (by simp [Tryz.f109]) rfl
theorem impl_NodeOk_ok (nodes1 : List GNode) (k2 : Int) {r0 : Bool} (h : impl_NodeOk nodes1 k2 = some r0) : Ok E 109 [.val (.sl false 4 (List.map (GNode.enc false) nodes1)), .val (vi k2)] [vb r0] [] := by
 refine oB (fn := Tryz.f109) Tryz.func109 rfl (by simp [Tryz.f109]) fun C hN hP => ?_
 have hPB : ∀ l, pinK [] l = true → pinB C.pin l = true := pO (by rw [hP]; rfl)
 have hN' : C.N = 101 := hN
 clear hN
 unfold impl_NodeOk at h
 refine SWp.sR rfl (hPB _ rfl) fun K hK => ?_
 refine wC rfl fun K hK => ?_; simp [hN']; refine hK _ ?_; clear hK
 refine wN (hK _ ?_); clear hK
 refine SWp.seq ?_
 refine SWp.sR rfl (hPB _ rfl) fun K hK => ?_
 iterate 4 (refine wC rfl fun K hK => ?_; simp [hN']; refine hK _ ?_; clear hK)
 obtain ⟨r3, hc4, h⟩ := bS h
 refine wL [(.take, .tmp 10), (.take, .const (.int .i64 0)), (.take, .tmp 13)] rfl rfl ent52 (impl_in_ok _ _ _ hc4) fun K hK => ?_; simp [hN']; refine hK _ ?_; clear hK
 refine wC rfl fun K hK => ?_; simp [hN']; refine hK _ ?_; clear hK
 refine wN (hK _ ?_); clear hK
 rcases ite_or h with ⟨hb5, h⟩ | ⟨hb6, h⟩
 ·refine SWp.cT' (b := !r3) (by simp) hb5 ?_
  refine SWp.sR rfl (hPB _ rfl) fun K hK => ?_
  refine wC rfl fun K hK => ?_; simp [hN']; refine hK _ ?_; clear hK
  refine wN (hK _ ?_); clear hK
  cases h
  refine SWp.ret ?_
  simp [thenS, iB, res109]
 ·refine SWp.cF' (b := !r3) (by simp) hb6 ?_
  refine SWp.skip ?_
  show SWp E C _ _ _
  refine SWp.sR rfl (hPB _ rfl) fun K hK => ?_
  iterate 2 (refine wC rfl fun K hK => ?_; simp [hN']; refine hK _ ?_; clear hK)
  obtain ⟨e7, he7, h⟩ := bS h
  obtain ⟨he7a, he7b, he7c, he7d⟩ := gS he7
  iterate 4 (refine wC rfl fun K hK => ?_; simp [hN', he7a, he7b, he7c, he7d]; refine hK _ ?_; clear hK)
  refine wN (hK _ ?_); clear hK
  refine SWp.sR rfl (hPB _ rfl) fun K hK => ?_
  iterate 2 (refine wC rfl fun K hK => ?_; simp [hN']; refine hK _ ?_; clear hK)
  obtain ⟨⟨r8, r9⟩, hc10, h⟩ := bS h
  try dsimp only at h
  refine wL [(.take, .tmp 22)] rfl rfl ent126 (impl_shape_ok _ hc10) fun K hK => ?_; simp [hN']; refine hK _ ?_; clear hK
  iterate 5 (refine wC rfl fun K hK => ?_; simp [hN']; refine hK _ ?_; clear hK)
  refine wN (hK _ ?_); clear hK
  refine SWp.seq ?_
  obtain ⟨v19, hj11, h⟩ := bS h
  refine SWp.seqRC rfl (hPB _ rfl) [0, 1, 5, 38] [5] (fun _ : Unit => ⟨[(0, .t (.sl false 4 (List.map (GNode.enc false) nodes1))), (1, .t (vi k2)), (5, .ref (.box 5) 0 []), (38, .t (vb v19))], [(5, [vi e7.Kind, vi e7.Num, vs e7.Name, .sl false 1 (List.map vi e7.Kids)])]⟩) (fun _ => True) (fun _ _ => ?_) fun K12 hK12 => ?_
  rotate_left
  ·refine wC rfl fun K hK => ?_; simp [hN']; refine hK _ ?_; clear hK
   refine wC rfl fun K hK => ?_; simp [hN']; refine hK _ ?_; clear hK
   obtain ⟨r13, hc14, hj11⟩ := bS hj11
   refine wL [(.take, .tmp 27), (.take, .const (.int .i64 1)), (.take, .const (.int .i64 20))] rfl rfl ent52 (impl_in_ok _ _ _ hc14) fun K hK => ?_; simp [hN']; refine hK _ ?_; clear hK
   iterate 2 (refine wC rfl fun K hK => ?_; simp [hN']; refine hK _ ?_; clear hK)
   rcases ite_or hj11 with ⟨hb15, hj11⟩ | ⟨hb16, hj11⟩
   ·have hb15s := hb15
    try simp at hb15s
    iterate 7 (refine wO fun K hK => ?_; simp [hN', hb15, hb15s]; refine hK _ ?_; clear hK)
    refine wC rfl fun K hK => ?_; simp [hN', hb15, hb15s]; refine hK _ ?_; clear hK
    refine wN ?_
    cases hj11
    exact hK12 _ () [] trivial (by simp [hN', hb15, hb15s])
   ·have hb16s := hb16
    try simp at hb16s
    iterate 5 (refine wC rfl fun K hK => ?_; simp [hN', hb16, hb16s]; refine hK _ ?_; clear hK)
    obtain ⟨r17, hc18, hj11⟩ := bS hj11
    refine wL [(.take, .tmp 33), (.take, .tmp 34), (.take, .tmp 35)] rfl rfl ent52 (impl_in_ok _ _ _ hc18) fun K hK => ?_; simp [hN', hb16, hb16s]; refine hK _ ?_; clear hK
    iterate 2 (refine wC rfl fun K hK => ?_; simp [hN', hb16, hb16s]; refine hK _ ?_; clear hK)
    refine wN ?_
    cases hj11
    exact hK12 _ () [] trivial (by simp [hN', hb16, hb16s])
  rcases ite_or h with ⟨hb20, h⟩ | ⟨hb21, h⟩
  ·refine SWp.cT' (b := v19) (by simp) hb20 ?_
   refine SWp.sR rfl (hPB _ rfl) fun K hK => ?_
   refine wC rfl fun K hK => ?_; simp [hN']; refine hK _ ?_; clear hK
   refine wN (hK _ ?_); clear hK
   cases h
   refine SWp.ret ?_
   simp [thenS, iB, res109]
  ·refine SWp.cF' (b := v19) (by simp) hb21 ?_
   refine SWp.skip ?_
   show SWp E C _ _ _
   obtain ⟨j24, hj22, h⟩ := bS h
   refine SWp.seqC [5] [5] (fun v : Unit => ⟨[(5, .ref (.box 5) 0 [])], [(5, [vi e7.Kind, vi e7.Num, vs e7.Name, .sl false 1 (List.map vi e7.Kids)])]⟩) (fun v => j24 = Sum.inl v) (fun v hv => ?_) fun K23 hK23 => ?_
   rotate_left
   ·refine SWp.sR rfl (hPB _ rfl) fun K hK => ?_
    iterate 4 (refine wC rfl fun K hK => ?_; simp [hN']; refine hK _ ?_; clear hK)
    refine wN (hK _ ?_); clear hK
    refine SWp.block ?_
    refine SWp.loopO [] [0, 1, 5, 40, 41, 42] [5] (fun v : Int => ⟨[(0, .t (.sl false 4 (List.map (GNode.enc false) nodes1))), (1, .t (vi k2)), (5, .ref (.box 5) 0 []), (40, .t (.sl false 1 (List.map vi e7.Kids))), (41, .t (vi (e7.Kids.length : Int))), (42, .t (vi v))], [(5, [vi e7.Kind, vi e7.Num, vs e7.Name, .sl false 1 (List.map vi e7.Kids)])]⟩) (impl_NodeOk_l1 nodes1 k2 e7) _ 0 hj22 (by simp [hN']) ?_
    intro g s28 h26 ho27
    obtain ⟨v25, hg⟩ : ∃ y, y = g := ⟨_, rfl⟩
    subst hg
    simp only [impl_NodeOk_l1] at h26
    try dsimp only
    refine SWp.sR rfl (hPB _ rfl) fun K hK => ?_
    refine wC rfl fun K hK => ?_; simp [hN']; refine hK _ ?_; clear hK
    refine wN (hK _ ?_); clear hK
    refine SWp.seq ?_
    rcases ite_or h26 with ⟨hb29, h26⟩ | ⟨hb30, h26⟩
    ·refine SWp.cT' (b := decide (v25 < (e7.Kids.length : Int))) (by simp) hb29 ?_
     refine SWp.skip ?_
     show SWp E C _ _ _
     refine SWp.seq ?_
     refine SWp.block ?_
     refine SWp.sR rfl (hPB _ rfl) fun K hK => ?_
     refine wC rfl fun K hK => ?_; simp [hN']; refine hK _ ?_; clear hK
     obtain ⟨e31, he31, h26⟩ := bS h26
     obtain ⟨he31a, he31b, he31c, he31d⟩ := gS he31
     iterate 4 (refine wC rfl fun K hK => ?_; simp [hN', he31a, he31b, he31c, he31d]; refine hK _ ?_; clear hK)
     refine wN (hK _ ?_); clear hK
     obtain ⟨v46, hj32, h26⟩ := bS h26
     refine SWp.seqC [0, 1, 5, 40, 41, 42, 71] [5] (fun _ : Unit => ⟨[(0, .t (.sl false 4 (List.map (GNode.enc false) nodes1))), (1, .t (vi k2)), (5, .ref (.box 5) 0 []), (40, .t (.sl false 1 (List.map vi e7.Kids))), (41, .t (vi (e7.Kids.length : Int))), (42, .t (vi v25)), (71, .t (vb v46))], [(5, [vi e7.Kind, vi e7.Num, vs e7.Name, .sl false 1 (List.map vi e7.Kids)])]⟩) (fun _ => True) (fun _ _ => ?_) fun K33 hK33 => ?_
     rotate_left
     ·obtain ⟨r34, hc35, hj32⟩ := bS hj32
      rcases ite_or hj32 with ⟨hb36, hj32⟩ | ⟨hb37, hj32⟩
      ·have hb36s := hb36
       try simp at hb36s
       refine SWp.dT rfl (hPB _ rfl) [(47, .t (vi e31)), (48, .t (vi k2)), (49, .t (vi (IntKind.wrap .i64 (k2 - 1)))), (50, .t (vb r34)), (51, .t (vb (!r34))), (52, .t (vb (!r34))), (53, .tup []), (54, .tup []), (55, .tup []), (56, .tup []), (57, .tup []), (58, .tup []), (59, .t (vb true)), (60, .t (vb true)), (61, .tup []), (62, .tup []), (63, .tup []), (64, .tup []), (65, .tup []), (66, .tup []), (67, .tup []), (68, .tup [])] [[], [], [1], [0, 1, 2], [0, 1, 2, 3], [0, 1, 2, 3, 4], [0, 1, 2, 3, 4, 5], [0, 1, 2, 3, 4, 5, 6], [0, 1, 2, 3, 4, 5], [0, 1, 2, 3, 4, 5, 6, 7, 8], [0, 1, 2, 3, 4, 5], [0, 1, 2, 3, 4, 5, 6, 7, 8, 9, 10], [0, 1, 2, 3, 4, 5, 6, 7, 8, 9, 10, 11], [0, 1, 2, 3, 4, 5, 6, 7, 8, 9, 10, 11, 12], [0, 1, 2, 3, 4, 5, 6, 7, 8, 9, 10, 11, 12, 13], [0, 1, 2, 3, 4, 5, 6, 7, 8, 9, 10, 11, 12, 13, 14], [0, 1, 2, 3, 4, 5, 6, 7, 8, 9, 10, 11, 12, 13], [0, 1, 2, 3, 4, 5, 6, 7, 8, 9, 10, 11, 12, 13], [0, 1, 2, 3, 4, 5, 6, 7, 8, 9, 10, 11, 12, 13], [0, 1, 2, 3, 4, 5, 6, 7, 8, 9, 10, 11, 12, 13, 17, 18], [0, 1, 2, 3, 4, 5, 6, 7, 8, 9, 10, 11, 12, 13, 17, 18, 19], [0, 1, 2, 3, 4, 5, 6, 7, 8, 9, 10, 11, 12, 13, 17, 18, 19, 20], [0, 1, 2, 3, 4, 5, 6, 7, 8, 9, 10, 11, 12, 13, 14, 15, 16, 17, 18, 19, 20, 21], [0, 1, 2, 3, 4, 5, 6, 7, 8, 9, 10, 11, 12, 13, 14, 15, 16, 17, 18, 19, 20, 21, 22], [0, 1, 2, 3, 4, 5, 6, 7, 8, 9, 10, 11, 12, 13, 14, 15, 16, 17, 18, 19, 20, 21, 22, 23]] (by simp) (by simp) (by simp [look]) rfl rfl rfl ?_ fun K hK => ?_
       ·refine ⟨?_, ?_, ?_, ?_, ?_, ?_, ?_, ?_, ?_, ?_, ?_, ?_, ?_, ?_, ?_, ?_, ?_, ?_, ?_, ?_, ?_, ?_, trivial⟩
        all_goals (intro τ hbx hb hd hf K hK; try simp [vsAt] at hd; simp [vsAt] at hf; first | (refine wC rfl fun K' hK' => ?_; simp [hN', hbx, hb, hd, hf, hb36, hb36s]; exact hK' _ (wN (hK _ (by simp [vsAt, hbx, hb36, hb36s])))) | (refine wL [(.take, .tmp 47), (.take, .const (.int .i64 0)), (.take, .tmp 49)] rfl rfl ent52 (impl_in_ok _ _ _ hc35) fun K' hK' => ?_; simp [hN', hbx, hb, hd, hf, hb36, hb36s]; exact hK' _ (wN (hK _ (by simp [vsAt, hbx, hb36, hb36s])))) | (refine wO fun K' hK' => ?_; simp [hN', hbx, hb, hd, hf, hb36, hb36s]; exact hK' _ (wN (hK _ (by simp [vsAt, hbx, hb36, hb36s])))))
       iterate 2 (refine wO fun K hK => ?_; simp [hN', hb36, hb36s]; refine hK _ ?_; clear hK)
       refine wC rfl fun K hK => ?_; simp [hN', hb36, hb36s]; refine hK _ ?_; clear hK
       refine wN (hK _ ?_); clear hK
       cases hj32
       exact hK33 _ () [] trivial (by simp [hN', hb36, hb36s])
      ·have hb37s := hb37
       try simp at hb37s
       obtain ⟨l38, hl38, hj32⟩ := bS hj32
       obtain ⟨hl38a, hl38b, hl38c, hl38d, hl38e, hl38g, hl38i, hl38j⟩ := subI_some hl38
       have hl38f : (List.map vi e7.Kids).take v25.toNat = List.map vi l38 := by subst hl38e; simp
       have hl38m := hl38f; try simp at hl38m
       have hl38k : 0 ≤ e7.Kids.length := by omega
       obtain ⟨r39, hc40, hj32⟩ := bS hj32
       rcases ite_or hj32 with ⟨hb41, hj32⟩ | ⟨hb42, hj32⟩
       ·have hb41s := hb41
        try simp at hb41s
        refine SWp.dT rfl (hPB _ rfl) [(47, .t (vi e31)), (48, .t (vi k2)), (49, .t (vi (IntKind.wrap .i64 (k2 - 1)))), (50, .t (vb r34)), (51, .t (vb (!r34))), (52, .t (vb (!r34))), (53, .ref (.box 5) 3 []), (54, .t (.sl false 1 (List.map vi e7.Kids))), (55, .t (vi v25)), (56, .t (.sl false 1 (List.map vi l38))), (57, .t (vi e31)), (58, .t (vb r39)), (59, .t (vb r39)), (60, .t (vb r39)), (61, .tup []), (62, .tup []), (63, .tup []), (64, .tup []), (65, .tup []), (66, .tup []), (67, .tup []), (68, .tup [])] [[], [], [1], [0, 1, 2], [0, 1, 2, 3], [0, 1, 2, 3, 4], [0, 1, 2, 3, 4, 5], [0, 1, 2, 3, 4, 5, 6], [0, 1, 2, 3, 4, 5], [0, 1, 2, 3, 4, 5, 6, 7, 8], [0, 1, 2, 3, 4, 5], [0, 1, 2, 3, 4, 5, 6, 7, 8, 9, 10], [0, 1, 2, 3, 4, 5, 6, 7, 8, 9, 10, 11], [0, 1, 2, 3, 4, 5, 6, 7, 8, 9, 10, 11, 12], [0, 1, 2, 3, 4, 5, 6, 7, 8, 9, 10, 11, 12, 13], [0, 1, 2, 3, 4, 5, 6, 7, 8, 9, 10, 11, 12, 13, 14], [0, 1, 2, 3, 4, 5, 6, 7, 8, 9, 10, 11, 12, 13], [0, 1, 2, 3, 4, 5, 6, 7, 8, 9, 10, 11, 12, 13], [0, 1, 2, 3, 4, 5, 6, 7, 8, 9, 10, 11, 12, 13], [0, 1, 2, 3, 4, 5, 6, 7, 8, 9, 10, 11, 12, 13, 17, 18], [0, 1, 2, 3, 4, 5, 6, 7, 8, 9, 10, 11, 12, 13, 17, 18, 19], [0, 1, 2, 3, 4, 5, 6, 7, 8, 9, 10, 11, 12, 13, 17, 18, 19, 20], [0, 1, 2, 3, 4, 5, 6, 7, 8, 9, 10, 11, 12, 13, 14, 15, 16, 17, 18, 19, 20, 21], [0, 1, 2, 3, 4, 5, 6, 7, 8, 9, 10, 11, 12, 13, 14, 15, 16, 17, 18, 19, 20, 21, 22], [0, 1, 2, 3, 4, 5, 6, 7, 8, 9, 10, 11, 12, 13, 14, 15, 16, 17, 18, 19, 20, 21, 22, 23]] (by simp) (by simp) (by simp [look]) rfl rfl rfl ?_ fun K hK => ?_
        ·refine ⟨?_, ?_, ?_, ?_, ?_, ?_, ?_, ?_, ?_, ?_, ?_, ?_, ?_, ?_, ?_, ?_, ?_, ?_, ?_, ?_, ?_, ?_, trivial⟩
         all_goals (intro τ hbx hb hd hf K hK; try simp [vsAt] at hd; simp [vsAt] at hf; first | (refine wC rfl fun K' hK' => ?_; simp [hN', hbx, hb, hd, hf, hb37, hb37s, hl38a, hl38b, hl38c, hl38d, hl38f, hl38g, hl38i, hl38j, hl38m, hl38k, hb41, hb41s]; exact hK' _ (wN (hK _ (by simp [vsAt, hbx, hb37, hb37s, hl38a, hl38b, hl38c, hl38d, hl38f, hl38g, hl38i, hl38j, hl38m, hl38k, hb41, hb41s])))) | (refine wL [(.take, .tmp 47), (.take, .const (.int .i64 0)), (.take, .tmp 49)] rfl rfl ent52 (impl_in_ok _ _ _ hc35) fun K' hK' => ?_; simp [hN', hbx, hb, hd, hf, hb37, hb37s, hl38a, hl38b, hl38c, hl38d, hl38f, hl38g, hl38i, hl38j, hl38m, hl38k, hb41, hb41s]; exact hK' _ (wN (hK _ (by simp [vsAt, hbx, hb37, hb37s, hl38a, hl38b, hl38c, hl38d, hl38f, hl38g, hl38i, hl38j, hl38m, hl38k, hb41, hb41s])))) | (refine wL [(.take, .tmp 56), (.take, .tmp 57)] rfl rfl ent49 (impl_hasInt_ok _ _ hc40) fun K' hK' => ?_; simp [hN', hbx, hb, hd, hf, hb37, hb37s, hl38a, hl38b, hl38c, hl38d, hl38f, hl38g, hl38i, hl38j, hl38m, hl38k, hb41, hb41s]; exact hK' _ (wN (hK _ (by simp [vsAt, hbx, hb37, hb37s, hl38a, hl38b, hl38c, hl38d, hl38f, hl38g, hl38i, hl38j, hl38m, hl38k, hb41, hb41s])))) | (refine wO fun K' hK' => ?_; simp [hN', hbx, hb, hd, hf, hb37, hb37s, hl38a, hl38b, hl38c, hl38d, hl38f, hl38g, hl38i, hl38j, hl38m, hl38k, hb41, hb41s]; exact hK' _ (wN (hK _ (by simp [vsAt, hbx, hb37, hb37s, hl38a, hl38b, hl38c, hl38d, hl38f, hl38g, hl38i, hl38j, hl38m, hl38k, hb41, hb41s])))))
        iterate 2 (refine wO fun K hK => ?_; simp [hN', hb37, hb37s, hl38a, hl38b, hl38c, hl38d, hl38f, hl38g, hl38i, hl38j, hl38m, hl38k, hb41, hb41s]; refine hK _ ?_; clear hK)
        refine wC rfl fun K hK => ?_; simp [hN', hb37, hb37s, hl38a, hl38b, hl38c, hl38d, hl38f, hl38g, hl38i, hl38j, hl38m, hl38k, hb41, hb41s]; refine hK _ ?_; clear hK
        refine wN (hK _ ?_); clear hK
        cases hj32
        exact hK33 _ () [] trivial (by simp [hN', hb37, hb37s, hl38a, hl38b, hl38c, hl38d, hl38f, hl38g, hl38i, hl38j, hl38m, hl38k, hb41, hb41s])
       ·have hb42s := hb42
        try simp at hb42s
        obtain ⟨e43, he43, hj32⟩ := bS hj32
        obtain ⟨he43a, he43b, he43c, he43d⟩ := gS he43
        refine SWp.dT rfl (hPB _ rfl) [(47, .t (vi e31)), (48, .t (vi k2)), (49, .t (vi (IntKind.wrap .i64 (k2 - 1)))), (50, .t (vb r34)), (51, .t (vb (!r34))), (52, .t (vb (!r34))), (53, .ref (.box 5) 3 []), (54, .t (.sl false 1 (List.map vi e7.Kids))), (55, .t (vi v25)), (56, .t (.sl false 1 (List.map vi l38))), (57, .t (vi e31)), (58, .t (vb r39)), (59, .t (vb r39)), (60, .t (vb r39)), (61, .ref (.box 5) 0 []), (62, .t (vi e7.Kind)), (63, .t (vi v25)), (64, .t (.sl false 4 (List.map (GNode.enc false) nodes1))), (65, .t (vi e31)), (66, .rop [vi e43.Kind, vi e43.Num, vs e43.Name, .sl false 1 (List.map vi e43.Kids)] 0), (67, .rop [vi e43.Kind, vi e43.Num, vs e43.Name, .sl false 1 (List.map vi e43.Kids)] 0), (68, .t (vi e43.Kind))] [[], [], [1], [0, 1, 2], [0, 1, 2, 3], [0, 1, 2, 3, 4], [0, 1, 2, 3, 4, 5], [0, 1, 2, 3, 4, 5, 6], [0, 1, 2, 3, 4, 5], [0, 1, 2, 3, 4, 5, 6, 7, 8], [0, 1, 2, 3, 4, 5], [0, 1, 2, 3, 4, 5, 6, 7, 8, 9, 10], [0, 1, 2, 3, 4, 5, 6, 7, 8, 9, 10, 11], [0, 1, 2, 3, 4, 5, 6, 7, 8, 9, 10, 11, 12], [0, 1, 2, 3, 4, 5, 6, 7, 8, 9, 10, 11, 12, 13], [0, 1, 2, 3, 4, 5, 6, 7, 8, 9, 10, 11, 12, 13, 14], [0, 1, 2, 3, 4, 5, 6, 7, 8, 9, 10, 11, 12, 13], [0, 1, 2, 3, 4, 5, 6, 7, 8, 9, 10, 11, 12, 13], [0, 1, 2, 3, 4, 5, 6, 7, 8, 9, 10, 11, 12, 13], [0, 1, 2, 3, 4, 5, 6, 7, 8, 9, 10, 11, 12, 13, 17, 18], [0, 1, 2, 3, 4, 5, 6, 7, 8, 9, 10, 11, 12, 13, 17, 18, 19], [0, 1, 2, 3, 4, 5, 6, 7, 8, 9, 10, 11, 12, 13, 17, 18, 19, 20], [0, 1, 2, 3, 4, 5, 6, 7, 8, 9, 10, 11, 12, 13, 14, 15, 16, 17, 18, 19, 20, 21], [0, 1, 2, 3, 4, 5, 6, 7, 8, 9, 10, 11, 12, 13, 14, 15, 16, 17, 18, 19, 20, 21, 22], [0, 1, 2, 3, 4, 5, 6, 7, 8, 9, 10, 11, 12, 13, 14, 15, 16, 17, 18, 19, 20, 21, 22, 23]] (by simp) (by simp) (by simp [look]) rfl rfl rfl ?_ fun K hK => ?_
        ·refine ⟨?_, ?_, ?_, ?_, ?_, ?_, ?_, ?_, ?_, ?_, ?_, ?_, ?_, ?_, ?_, ?_, ?_, ?_, ?_, ?_, ?_, ?_, trivial⟩
         all_goals (intro τ hbx hb hd hf K hK; try simp [vsAt] at hd; simp [vsAt] at hf; first | (refine wC rfl fun K' hK' => ?_; simp [hN', hbx, hb, hd, hf, hb37, hb37s, hl38a, hl38b, hl38c, hl38d, hl38f, hl38g, hl38i, hl38j, hl38m, hl38k, hb42, hb42s, he43a, he43b, he43c, he43d]; exact hK' _ (wN (hK _ (by simp [vsAt, hbx, hb37, hb37s, hl38a, hl38b, hl38c, hl38d, hl38f, hl38g, hl38i, hl38j, hl38m, hl38k, hb42, hb42s, he43a, he43b, he43c, he43d])))) | (refine wL [(.take, .tmp 47), (.take, .const (.int .i64 0)), (.take, .tmp 49)] rfl rfl ent52 (impl_in_ok _ _ _ hc35) fun K' hK' => ?_; simp [hN', hbx, hb, hd, hf, hb37, hb37s, hl38a, hl38b, hl38c, hl38d, hl38f, hl38g, hl38i, hl38j, hl38m, hl38k, hb42, hb42s, he43a, he43b, he43c, he43d]; exact hK' _ (wN (hK _ (by simp [vsAt, hbx, hb37, hb37s, hl38a, hl38b, hl38c, hl38d, hl38f, hl38g, hl38i, hl38j, hl38m, hl38k, hb42, hb42s, he43a, he43b, he43c, he43d])))) | (refine wL [(.take, .tmp 56), (.take, .tmp 57)] rfl rfl ent49 (impl_hasInt_ok _ _ hc40) fun K' hK' => ?_; simp [hN', hbx, hb, hd, hf, hb37, hb37s, hl38a, hl38b, hl38c, hl38d, hl38f, hl38g, hl38i, hl38j, hl38m, hl38k, hb42, hb42s, he43a, he43b, he43c, he43d]; exact hK' _ (wN (hK _ (by simp [vsAt, hbx, hb37, hb37s, hl38a, hl38b, hl38c, hl38d, hl38f, hl38g, hl38i, hl38j, hl38m, hl38k, hb42, hb42s, he43a, he43b, he43c, he43d])))))
        obtain ⟨r44, hc45, hj32⟩ := bS hj32
        refine wL [(.take, .tmp 62), (.take, .tmp 63), (.take, .tmp 68)] rfl rfl ent127 (impl_kidFits_ok _ _ _ hc45) fun K hK => ?_; simp [hN', hb37, hb37s, hl38a, hl38b, hl38c, hl38d, hl38f, hl38g, hl38i, hl38j, hl38m, hl38k, hb42, hb42s, he43a, he43b, he43c, he43d]; refine hK _ ?_; clear hK
        iterate 2 (refine wC rfl fun K hK => ?_; simp [hN', hb37, hb37s, hl38a, hl38b, hl38c, hl38d, hl38f, hl38g, hl38i, hl38j, hl38m, hl38k, hb42, hb42s, he43a, he43b, he43c, he43d]; refine hK _ ?_; clear hK)
        refine wN (hK _ ?_); clear hK
        cases hj32
        exact hK33 _ () [] trivial (by simp [hN', hb37, hb37s, hl38a, hl38b, hl38c, hl38d, hl38f, hl38g, hl38i, hl38j, hl38m, hl38k, hb42, hb42s, he43a, he43b, he43c, he43d])
     rcases ite_or h26 with ⟨hb47, h26⟩ | ⟨hb48, h26⟩
     ·refine SWp.cT' (b := v46) (by simp) hb47 ?_
      refine SWp.sR rfl (hPB _ rfl) fun K hK => ?_
      refine wC rfl fun K hK => ?_; simp [hN']; refine hK _ ?_; clear hK
      refine wN (hK _ ?_); clear hK
      have h49 := congrArg some (ho27 _ (Option.some.inj h26).symm)
      cases h49
      try dsimp only at h
      cases h
      refine SWp.ret ?_
      simp [thenS, iB, res109]
     ·refine SWp.cF' (b := v46) (by simp) hb48 ?_
      refine SWp.skip ?_
      show SWp E C _ _ _
      refine SWp.reg rfl (hPB _ rfl) fun K hK => ?_
      iterate 2 (refine wC rfl fun K hK => ?_; simp [hN']; refine hK _ ?_; clear hK)
      refine wN (hK _ ?_); clear hK
      cases h26
      exact ⟨_, [], rfl, by simp [hN']⟩
    ·refine SWp.cF' (b := decide (v25 < (e7.Kids.length : Int))) (by simp) hb30 ?_
     refine SWp.exit ?_
     have h50 := congrArg some (ho27 _ (Option.some.inj h26).symm)
     cases h50
     exact hK23 _ _ [] rfl (by simp [hN'])
   subst hv
   obtain ⟨⟩ := v
   try dsimp only at h ⊢
   refine SWp.seq ?_
   obtain ⟨v61, hj51, h⟩ := bS h
   refine SWp.seqRC rfl (hPB _ rfl) [5, 91] [5] (fun _ : Unit => ⟨[(5, .ref (.box 5) 0 []), (91, .t (vb v61))], [(5, [vi e7.Kind, vi e7.Num, vs e7.Name, .sl false 1 (List.map vi e7.Kids)])]⟩) (fun _ => True) (fun _ _ => ?_) fun K52 hK52 => ?_
   rotate_left
   ·refine wC rfl fun K hK => ?_; simp [hN']; refine hK _ ?_; clear hK
    iterate 3 (refine wC rfl fun K hK => ?_; simp [hN']; refine hK _ ?_; clear hK)
    rcases ite_or hj51 with ⟨hb53, hj51⟩ | ⟨hb54, hj51⟩
    ·have hb53s := hb53
     try simp at hb53s
     iterate 2 (refine wC rfl fun K hK => ?_; simp [hN', hb53, hb53s]; refine hK _ ?_; clear hK)
     obtain ⟨r55, hc56, hj51⟩ := bS hj51
     refine wL [(.take, .tmp 78), (.take, .const (.int .i64 0)), (.take, .const (.int .i64 1000000000))] rfl rfl ent52 (impl_in_ok _ _ _ hc56) fun K hK => ?_; simp [hN', hb53, hb53s]; refine hK _ ?_; clear hK
     iterate 3 (refine wC rfl fun K hK => ?_; simp [hN', hb53, hb53s]; refine hK _ ?_; clear hK)
     rcases ite_or hj51 with ⟨hb57, hj51⟩ | ⟨hb58, hj51⟩
     ·have hb57s := hb57
      try simp at hb57s
      iterate 8 (refine wO fun K hK => ?_; simp [hN', hb53, hb53s, hb57, hb57s]; refine hK _ ?_; clear hK)
      refine wC rfl fun K hK => ?_; simp [hN', hb53, hb53s, hb57, hb57s]; refine hK _ ?_; clear hK
      refine wN ?_
      cases hj51
      exact hK52 _ () [] trivial (by simp [hN', hb53, hb53s, hb57, hb57s])
     ·have hb58s := hb58
      try simp at hb58s
      iterate 4 (refine wC rfl fun K hK => ?_; simp [hN', hb53, hb53s, hb58, hb58s]; refine hK _ ?_; clear hK)
      have hk59 : (e7.Kind != 1) = false := by simp [hb53, hb53s, hb58, hb58s]
      iterate 3 (refine wO fun K hK => ?_; simp [hN', hb53, hb53s, hb58, hb58s, hk59]; refine hK _ ?_; clear hK)
      iterate 2 (refine wC rfl fun K hK => ?_; simp [hN', hb53, hb53s, hb58, hb58s, hk59]; refine hK _ ?_; clear hK)
      refine wN ?_
      cases hj51
      exact hK52 _ () [] trivial (by simp [hN', hb53, hb53s, hb58, hb58s, hk59])
    ·have hb54s := hb54
     try simp at hb54s
     iterate 4 (refine wO fun K hK => ?_; simp [hN', hb54, hb54s]; refine hK _ ?_; clear hK)
     iterate 6 (refine wC rfl fun K hK => ?_; simp [hN', hb54, hb54s]; refine hK _ ?_; clear hK)
     have hk60 : (e7.Kind != 1) = true := by simp [hb54, hb54s]
     iterate 5 (refine wC rfl fun K hK => ?_; simp [hN', hb54, hb54s, hk60]; refine hK _ ?_; clear hK)
     refine wN ?_
     cases hj51
     exact hK52 _ () [] trivial (by simp [hN', hb54, hb54s, hk60])
   rcases ite_or h with ⟨hb62, h⟩ | ⟨hb63, h⟩
   ·refine SWp.cT' (b := v61) (by simp) hb62 ?_
    refine SWp.sR rfl (hPB _ rfl) fun K hK => ?_
    refine wC rfl fun K hK => ?_; simp [hN']; refine hK _ ?_; clear hK
    refine wN (hK _ ?_); clear hK
    cases h
    refine SWp.ret ?_
    simp [thenS, iB, res109]
   ·refine SWp.cF' (b := v61) (by simp) hb63 ?_
    refine SWp.skip ?_
    show SWp E C _ _ _
    refine SWp.seq ?_
    refine SWp.sR rfl (hPB _ rfl) fun K hK => ?_
    iterate 2 (refine wC rfl fun K hK => ?_; simp [hN']; refine hK _ ?_; clear hK)
    obtain ⟨r64, hc65, h⟩ := bS h
    refine wL [(.take, .tmp 93)] rfl rfl ent128 (impl_hasName_ok _ hc65) fun K hK => ?_; simp [hN']; refine hK _ ?_; clear hK
    refine wN (hK _ ?_); clear hK
    rcases ite_or h with ⟨hb66, h⟩ | ⟨hb67, h⟩
    ·refine SWp.cT' (b := r64) (by simp) hb66 ?_
     refine SWp.sR rfl (hPB _ rfl) fun K hK => ?_
     iterate 2 (refine wC rfl fun K hK => ?_; simp [hN']; refine hK _ ?_; clear hK)
     obtain ⟨r68, hc69, h⟩ := bS h
     refine wL [(.take, .tmp 96)] rfl rfl ent94 (impl_NameOk_ok _ hc69) fun K hK => ?_; simp [hN']; refine hK _ ?_; clear hK
     refine wC rfl fun K hK => ?_; simp [hN']; refine hK _ ?_; clear hK
     refine wN (hK _ ?_); clear hK
     cases h
     refine SWp.ret ?_
     simp [thenS, iB, res109]
    ·refine SWp.cF' (b := r64) (by simp) hb67 ?_
     refine SWp.skip ?_
     show SWp E C _ _ _
     refine SWp.sR rfl (hPB _ rfl) fun K hK => ?_
     iterate 4 (refine wC rfl fun K hK => ?_; simp [hN']; refine hK _ ?_; clear hK)
     refine wN (hK _ ?_); clear hK
     cases h
     refine SWp.ret ?_
     simp [thenS, iB, res109]
theorem res93 : Tryz.f93.results.toList = [.tmp 4, .tmp 5] := rfl
theorem ent93 : Enters E.P 93 := eO Tryz.func93 (by simp [Tryz.f93]) rfl
theorem impl_depths_ok (nodes1 : List GNode) (k2 : Int) {r0 : List Int} {r1 : Bool} (h : impl_depths nodes1 k2 = some (r0, r1)) : Ok E 93 [.val (.sl false 4 (List.map (GNode.enc false) nodes1)), .val (vi k2)] [.sl true 1 (List.map vi r0), vb r1] [] := by
 refine oB (fn := Tryz.f93) Tryz.func93 rfl (by simp [Tryz.f93]) fun C hN hP => ?_
 have hPB : ∀ l, pinK [] l = true → pinB C.pin l = true := pO (by rw [hP]; rfl)
 have hN' : C.N = 51 := hN
 clear hN
 unfold impl_depths at h
 refine SWp.sR rfl (hPB _ rfl) fun K hK => ?_
 iterate 2 (refine wC rfl fun K hK => ?_; simp [hN']; refine hK _ ?_; clear hK)
 refine wN (hK _ ?_); clear hK
 refine SWp.seq ?_
 refine SWp.sR rfl (hPB _ rfl) fun K hK => ?_
 iterate 4 (refine wC rfl fun K hK => ?_; simp [hN']; refine hK _ ?_; clear hK)
 obtain ⟨r3, hc4, h⟩ := bS h
 refine wL [(.take, .tmp 11), (.take, .const (.int .i64 0)), (.take, .tmp 14)] rfl rfl ent52 (impl_in_ok _ _ _ hc4) fun K hK => ?_; simp [hN']; refine hK _ ?_; clear hK
 refine wC rfl fun K hK => ?_; simp [hN']; refine hK _ ?_; clear hK
 refine wN (hK _ ?_); clear hK
 rcases ite_or h with ⟨hb5, h⟩ | ⟨hb6, h⟩
 ·refine SWp.cT' (b := !r3) (by simp) hb5 ?_
  refine SWp.sR rfl (hPB _ rfl) fun K hK => ?_
  iterate 2 (refine wC rfl fun K hK => ?_; simp [hN']; refine hK _ ?_; clear hK)
  refine wN (hK _ ?_); clear hK
  cases h
  refine SWp.ret ?_
  simp [thenS, iB, res93]
 ·refine SWp.cF' (b := !r3) (by simp) hb6 ?_
  refine SWp.skip ?_
  show SWp E C _ _ _
  refine SWp.sR rfl (hPB _ rfl) fun K hK => ?_
  refine wC rfl fun K hK => ?_; simp [hN']; refine hK _ ?_; clear hK
  refine wN (hK _ ?_); clear hK
  obtain ⟨j9, hj7, h⟩ := bS h
  refine SWp.seqC [6] [] (fun v : List Int => ⟨[(6, .t (.sl true 1 (List.map vi v)))], []⟩) (fun v => j9 = Sum.inl v) (fun v hv => ?_) fun K8 hK8 => ?_
  rotate_left
  ·refine SWp.sR rfl (hPB _ rfl) fun K hK => ?_
   refine wC rfl fun K hK => ?_; simp [hN']; refine hK _ ?_; clear hK
   refine wN (hK _ ?_); clear hK
   refine SWp.block ?_
   refine SWp.loopO [] [0, 1, 6, 7] [] (fun v : (List Int) × Int => ⟨[(0, .t (.sl false 4 (List.map (GNode.enc false) nodes1))), (1, .t (vi k2)), (6, .t (.sl true 1 (List.map vi v.1))), (7, .t (vi v.2))], []⟩) (impl_depths_l1 nodes1 k2) _ ([], 0) hj7 (by simp [hN']) ?_
   intro g s14 h12 ho13
   obtain ⟨out10, i11⟩ := g
   simp only [impl_depths_l1] at h12
   try dsimp only
   refine SWp.seq ?_
   refine SWp.sR rfl (hPB _ rfl) fun K hK => ?_
   iterate 3 (refine wC rfl fun K hK => ?_; simp [hN']; refine hK _ ?_; clear hK)
   refine wN (hK _ ?_); clear hK
   rcases ite_or h12 with ⟨hb15, h12⟩ | ⟨hb16, h12⟩
   ·refine SWp.cT' (b := decide (i11 ≤ k2)) (by simp) hb15 ?_
    refine SWp.skip ?_
    show SWp E C _ _ _
    obtain ⟨j19, hj17, h12⟩ := bS h12
    refine SWp.seqC [0, 1, 6, 7] [] (fun v : List Int => ⟨[(0, .t (.sl false 4 (List.map (GNode.enc false) nodes1))), (1, .t (vi k2)), (6, .t (.sl true 1 (List.map vi v))), (7, .t (vi i11))], []⟩) (fun v => j19 = Sum.inl v) (fun v hv => ?_) fun K18 hK18 => ?_
    rotate_left
    ·refine SWp.block ?_
     refine SWp.seq ?_
     refine SWp.sR rfl (hPB _ rfl) fun K hK => ?_
     iterate 2 (refine wC rfl fun K hK => ?_; simp [hN']; refine hK _ ?_; clear hK)
     obtain ⟨r20, hc21, hj17⟩ := bS hj17
     refine wL [(.take, .tmp 22), (.take, .tmp 23)] rfl rfl ent109 (impl_NodeOk_ok _ _ hc21) fun K hK => ?_; simp [hN']; refine hK _ ?_; clear hK
     refine wC rfl fun K hK => ?_; simp [hN']; refine hK _ ?_; clear hK
     refine wN (hK _ ?_); clear hK
     rcases ite_or hj17 with ⟨hb22, hj17⟩ | ⟨hb23, hj17⟩
     ·refine SWp.cT' (b := !r20) (by simp) hb22 ?_
      refine SWp.sR rfl (hPB _ rfl) fun K hK => ?_
      iterate 2 (refine wC rfl fun K hK => ?_; simp [hN']; refine hK _ ?_; clear hK)
      refine wN (hK _ ?_); clear hK
      cases hj17
      try dsimp only at h12
      have h24 := congrArg some (ho13 _ (Option.some.inj h12).symm)
      cases h24
      try dsimp only at h
      cases h
      refine SWp.ret ?_
      simp [thenS, iB, res93]
     ·refine SWp.cF' (b := !r20) (by simp) hb23 ?_
      refine SWp.skip ?_
      show SWp E C _ _ _
      refine SWp.sR rfl (hPB _ rfl) fun K hK => ?_
      refine wC rfl fun K hK => ?_; simp [hN']; refine hK _ ?_; clear hK
      refine wN (hK _ ?_); clear hK
      obtain ⟨d39, hj25, hj17⟩ := bS hj17
      refine SWp.seqC [0, 1, 6, 7, 8] [] (fun _ : Unit => ⟨[(0, .t (.sl false 4 (List.map (GNode.enc false) nodes1))), (1, .t (vi k2)), (6, .t (.sl true 1 (List.map vi out10))), (7, .t (vi i11)), (8, .t (vi d39))], []⟩) (fun _ => True) (fun _ _ => ?_) fun K26 hK26 => ?_
      rotate_left
      ·refine SWp.sR rfl (hPB _ rfl) fun K hK => ?_
       iterate 2 (refine wC rfl fun K hK => ?_; simp [hN']; refine hK _ ?_; clear hK)
       obtain ⟨e28, he28, hj25⟩ := bS hj25
       obtain ⟨he28a, he28b, he28c, he28d⟩ := gS he28
       iterate 5 (refine wC rfl fun K hK => ?_; simp [hN', he28a, he28b, he28c, he28d]; refine hK _ ?_; clear hK)
       refine wN (hK _ ?_); clear hK
       refine SWp.block ?_
       refine SWp.loopO [] [0, 1, 6, 7, 8, 30, 31, 32] [] (fun v : Int × Int => ⟨[(0, .t (.sl false 4 (List.map (GNode.enc false) nodes1))), (1, .t (vi k2)), (6, .t (.sl true 1 (List.map vi out10))), (7, .t (vi i11)), (8, .t (vi v.1)), (30, .t (.sl false 1 (List.map vi e28.Kids))), (31, .t (vi (e28.Kids.length : Int))), (32, .t (vi v.2))], []⟩) (impl_depths_l2 out10 e28) _ (1, 0) hj25 (by simp [hN']) ?_
       intro g s33 h31 ho32
       obtain ⟨d29, v30⟩ := g
       simp only [impl_depths_l2] at h31
       try dsimp only
       refine SWp.sR rfl (hPB _ rfl) fun K hK => ?_
       refine wC rfl fun K hK => ?_; simp [hN']; refine hK _ ?_; clear hK
       refine wN (hK _ ?_); clear hK
       refine SWp.seq ?_
       rcases ite_or h31 with ⟨hb34, h31⟩ | ⟨hb35, h31⟩
       ·refine SWp.cT' (b := decide (v30 < (e28.Kids.length : Int))) (by simp) hb34 ?_
        refine SWp.skip ?_
        show SWp E C _ _ _
        refine SWp.seq ?_
        refine SWp.block ?_
        refine SWp.sR rfl (hPB _ rfl) fun K hK => ?_
        obtain ⟨e36, he36, h31⟩ := bS h31
        obtain ⟨he36a, he36b, he36c, he36d⟩ := gS he36
        iterate 3 (refine wC rfl fun K hK => ?_; simp [hN', he36a, he36b, he36c, he36d]; refine hK _ ?_; clear hK)
        refine wN (hK _ ?_); clear hK
        refine SWp.reg rfl (hPB _ rfl) fun K hK => ?_
        iterate 3 (refine wC rfl fun K hK => ?_; simp [hN']; refine hK _ ?_; clear hK)
        obtain ⟨e37, he37, h31⟩ := bS h31
        obtain ⟨he37a, he37b, he37c, he37d⟩ := gS he37
        iterate 5 (refine wC rfl fun K hK => ?_; simp [hN', he37a, he37b, he37c, he37d]; refine hK _ ?_; clear hK)
        refine wN (hK _ ?_); clear hK
        show SWp E C _ _ _
        refine SWp.reg rfl (hPB _ rfl) fun K hK => ?_
        iterate 2 (refine wC rfl fun K hK => ?_; simp [hN']; refine hK _ ?_; clear hK)
        refine wN (hK _ ?_); clear hK
        cases h31
        exact ⟨_, [], rfl, by simp [hN']⟩
       ·refine SWp.cF' (b := decide (v30 < (e28.Kids.length : Int))) (by simp) hb35 ?_
        refine SWp.exit ?_
        have h38 := congrArg some (ho32 _ (Option.some.inj h31).symm)
        cases h38
        exact hK26 _ () [] trivial (by simp [hN'])
      refine SWp.seq ?_
      refine SWp.sR rfl (hPB _ rfl) fun K hK => ?_
      iterate 2 (refine wC rfl fun K hK => ?_; simp [hN']; refine hK _ ?_; clear hK)
      refine wN (hK _ ?_); clear hK
      rcases ite_or hj17 with ⟨hb40, hj17⟩ | ⟨hb41, hj17⟩
      ·refine SWp.cT' (b := decide (d39 > 10)) (by simp) hb40 ?_
       refine SWp.sR rfl (hPB _ rfl) fun K hK => ?_
       iterate 2 (refine wC rfl fun K hK => ?_; simp [hN']; refine hK _ ?_; clear hK)
       refine wN (hK _ ?_); clear hK
       cases hj17
       try dsimp only at h12
       have h42 := congrArg some (ho13 _ (Option.some.inj h12).symm)
       cases h42
       try dsimp only at h
       cases h
       refine SWp.ret ?_
       simp [thenS, iB, res93]
      ·refine SWp.cF' (b := decide (d39 > 10)) (by simp) hb41 ?_
       refine SWp.skip ?_
       show SWp E C _ _ _
       refine SWp.reg rfl (hPB _ rfl) fun K hK => ?_
       iterate 3 (refine wC rfl fun K hK => ?_; simp [hN']; refine hK _ ?_; clear hK)
       obtain ⟨l43, hl43, hj17⟩ := bS hj17
       obtain ⟨hl43a, hl43b, hl43d⟩ := aS hl43
       have hl43f : List.map vi out10 ++ List.map vi [d39] = List.map vi l43 := app_map (f := vi) hl43d
       simp [eSl] at hl43a hl43b hl43f
       iterate 2 (refine wC rfl fun K hK => ?_; simp [hN', hl43a, hl43b, hl43f]; refine hK _ ?_; clear hK)
       refine wN (hK _ ?_); clear hK
       cases hj17
       exact hK18 _ _ [] rfl (by simp [hN'])
    subst hv
    obtain ⟨out44, hv⟩ : ∃ y, y = v := ⟨_, rfl⟩
    subst hv
    try dsimp only at h12 ⊢
    refine SWp.reg rfl (hPB _ rfl) fun K hK => ?_
    iterate 3 (refine wC rfl fun K hK => ?_; simp [hN']; refine hK _ ?_; clear hK)
    refine wN (hK _ ?_); clear hK
    cases h12
    exact ⟨_, [], rfl, by simp [hN']⟩
   ·refine SWp.cF' (b := decide (i11 ≤ k2)) (by simp) hb16 ?_
    refine SWp.exit ?_
    have h45 := congrArg some (ho13 _ (Option.some.inj h12).symm)
    cases h45
    exact hK8 _ _ [] rfl (by simp [hN'])
  subst hv
  obtain ⟨out46, hv⟩ : ∃ y, y = v := ⟨_, rfl⟩
  subst hv
  try dsimp only at h ⊢
  refine SWp.sR rfl (hPB _ rfl) fun K hK => ?_
  iterate 3 (refine wC rfl fun K hK => ?_; simp [hN']; refine hK _ ?_; clear hK)
  refine wN (hK _ ?_); clear hK
  cases h
  refine SWp.ret ?_
  simp [thenS, iB, res93]
theorem res68 : Tryz.f68.results.toList = [.tmp 4] := rfl
theorem ent68 : Enters E.P 68 := eO Tryz.func68 (by simp [Tryz.f68]) rfl
theorem impl_DeepOf_ok (nodes1 : List GNode) (k2 : Int) {r0 : Int} (h : impl_DeepOf nodes1 k2 = some r0) : Ok E 68 [.val (.sl false 4 (List.map (GNode.enc false) nodes1)), .val (vi k2)] [vi r0] [] := by
 refine oB (fn := Tryz.f68) Tryz.func68 rfl (by simp [Tryz.f68]) fun C hN hP => ?_
 have u : ∀ l, pinK [] l = true → pinB C.pin l = true := pO (by rw [hP]; rfl)
 have y : C.N = 19 := hN
 clear hN
 unfold impl_DeepOf at h
 refine SWp.sR rfl (u _ rfl) fun K q => ?_
 refine wC rfl fun K q => ?_; simp [y]; refine q _ ?_; clear q
 refine wN (q _ ?_); clear q
 refine SWp.sR rfl (u _ rfl) fun K q => ?_
 iterate 2 (refine wC rfl fun K q => ?_; simp [y]; refine q _ ?_; clear q)
 obtain ⟨⟨r3, r4⟩, hc5, h⟩ := bS h
 try dsimp only at h
 refine wL [(.take, .tmp 8), (.take, .tmp 9)] rfl rfl ent93 (impl_depths_ok _ _ hc5) fun K q => ?_; simp [y]; refine q _ ?_; clear q
 iterate 5 (refine wC rfl fun K q => ?_; simp [y]; refine q _ ?_; clear q)
 refine wN (q _ ?_); clear q
 refine SWp.seq ?_
 refine SWp.sR rfl (u _ rfl) fun K q => ?_
 iterate 2 (refine wC rfl fun K q => ?_; simp [y]; refine q _ ?_; clear q)
 refine wN (q _ ?_); clear q
 rcases ite_or h with ⟨hb6, h⟩ | ⟨hb7, h⟩
 ·refine SWp.cT' (b := !r4) (by simp) hb6 ?_
  refine SWp.sR rfl (u _ rfl) fun K q => ?_
  refine wC rfl fun K q => ?_; simp [y]; refine q _ ?_; clear q
  refine wN (q _ ?_); clear q
  cases h
  refine SWp.ret ?_
  simp [thenS, iB, res68]
 ·refine SWp.cF' (b := !r4) (by simp) hb7 ?_
  refine SWp.skip ?_
  show SWp E C _ _ _
  refine SWp.sR rfl (u _ rfl) fun K q => ?_
  iterate 2 (refine wC rfl fun K q => ?_; simp [y]; refine q _ ?_; clear q)
  obtain ⟨e8, he8, h⟩ := bS h
  obtain ⟨he8a, he8b, he8c, he8d⟩ := gS he8
  iterate 3 (refine wC rfl fun K q => ?_; simp [y, he8a, he8b, he8c, he8d]; refine q _ ?_; clear q)
  refine wN (q _ ?_); clear q
  cases h
  refine SWp.ret ?_
  simp [thenS, iB, res68]
theorem res69 : Tryz.f69.results.toList = [.tmp 4] := rfl
theorem ent69 : Enters E.P 69 := eO Tryz.func69 (by simp [Tryz.f69]) rfl
theorem impl_fnOk_ok (p1 : GProgram) (f2 : GFn) {r0 : Bool} (h : impl_fnOk p1 f2 = some r0) : Ok E 69 [.val (GProgram.enc false p1), .val (GFn.enc false f2)] [vb r0] [] := by
 refine oB (fn := Tryz.f69) Tryz.func69 rfl (by simp [Tryz.f69]) fun C hN hP => ?_
 have hPB : ∀ l, pinK [] l = true → pinB C.pin l = true := pO (by rw [hP]; rfl)
 have hN' : C.N = 91 := hN
 clear hN
 unfold impl_fnOk at h
 refine SWp.sR rfl (hPB _ rfl) fun K hK => ?_
 iterate 3 (refine wC rfl fun K hK => ?_; simp [hN']; refine hK _ ?_; clear hK)
 refine wN (hK _ ?_); clear hK
 refine SWp.seq ?_
 obtain ⟨v15, hj3, h⟩ := bS h
 refine SWp.seqRC rfl (hPB _ rfl) [2, 3, 31] [2, 3] (fun _ : Unit => ⟨[(2, .ref (.box 2) 0 []), (3, .ref (.box 3) 0 []), (31, .t (vb v15))], [(2, [.sl false 4 (List.map (GNode.enc false) p1.Nodes), .sl false 5 (List.map (GFn.enc false) p1.Fns)]), (3, [vs f2.Name, .sl false 2 (List.map GParam.enc f2.Params), vi f2.Res, vi f2.Body, vi f2.Ret])]⟩) (fun _ => True) (fun _ _ => ?_) fun K4 hK4 => ?_
 rotate_left
 ·refine wC rfl fun K hK => ?_; simp [hN']; refine hK _ ?_; clear hK
  refine wC rfl fun K hK => ?_; simp [hN']; refine hK _ ?_; clear hK
  obtain ⟨r5, hc6, hj3⟩ := bS hj3
  refine wL [(.take, .tmp 8)] rfl rfl ent94 (impl_NameOk_ok _ hc6) fun K hK => ?_; simp [hN']; refine hK _ ?_; clear hK
  iterate 2 (refine wC rfl fun K hK => ?_; simp [hN']; refine hK _ ?_; clear hK)
  rcases ite_or hj3 with ⟨hb7, hj3⟩ | ⟨hb8, hj3⟩
  ·have hb7s := hb7
   try simp at hb7s
   iterate 4 (refine wO fun K hK => ?_; simp [hN', hb7, hb7s]; refine hK _ ?_; clear hK)
   iterate 2 (refine wC rfl fun K hK => ?_; simp [hN', hb7, hb7s]; refine hK _ ?_; clear hK)
   iterate 13 (refine wO fun K hK => ?_; simp [hN', hb7, hb7s]; refine hK _ ?_; clear hK)
   refine wC rfl fun K hK => ?_; simp [hN', hb7, hb7s]; refine hK _ ?_; clear hK
   refine wN ?_
   cases hj3
   exact hK4 _ () [] trivial (by simp [hN', hb7, hb7s])
  ·have hb8s := hb8
   try simp at hb8s
   iterate 6 (refine wC rfl fun K hK => ?_; simp [hN', hb8, hb8s]; refine hK _ ?_; clear hK)
   rcases ite_or hj3 with ⟨hb9, hj3⟩ | ⟨hb10, hj3⟩
   ·have hb9s := hb9
    try simp at hb9s
    iterate 13 (refine wO fun K hK => ?_; simp [hN', hb8, hb8s, hb9, hb9s]; refine hK _ ?_; clear hK)
    refine wC rfl fun K hK => ?_; simp [hN', hb8, hb8s, hb9, hb9s]; refine hK _ ?_; clear hK
    refine wN ?_
    cases hj3
    exact hK4 _ () [] trivial (by simp [hN', hb8, hb8s, hb9, hb9s])
   ·have hb10s := hb10
    try simp at hb10s
    iterate 4 (refine wC rfl fun K hK => ?_; simp [hN', hb8, hb8s, hb10, hb10s]; refine hK _ ?_; clear hK)
    rcases ite_or hj3 with ⟨hb11, hj3⟩ | ⟨hb12, hj3⟩
    ·have hb11s := hb11
     try simp at hb11s
     iterate 5 (refine wC rfl fun K hK => ?_; simp [hN', hb8, hb8s, hb10, hb10s, hb11, hb11s]; refine hK _ ?_; clear hK)
     rcases ite_or hj3 with ⟨hb13, hj3⟩ | ⟨hb14, hj3⟩
     ·have hb13s := hb13
      try simp at hb13s
      iterate 5 (refine wC rfl fun K hK => ?_; simp [hN', hb8, hb8s, hb10, hb10s, hb11, hb11s, hb13, hb13s]; refine hK _ ?_; clear hK)
      refine wN ?_
      cases hj3
      exact hK4 _ () [] trivial (by simp [hN', hb8, hb8s, hb10, hb10s, hb11, hb11s, hb13, hb13s])
     ·have hb14s := hb14
      try simp at hb14s
      iterate 3 (refine wO fun K hK => ?_; simp [hN', hb8, hb8s, hb10, hb10s, hb11, hb11s, hb14, hb14s]; refine hK _ ?_; clear hK)
      iterate 2 (refine wC rfl fun K hK => ?_; simp [hN', hb8, hb8s, hb10, hb10s, hb11, hb11s, hb14, hb14s]; refine hK _ ?_; clear hK)
      refine wN ?_
      cases hj3
      exact hK4 _ () [] trivial (by simp [hN', hb8, hb8s, hb10, hb10s, hb11, hb11s, hb14, hb14s])
    ·have hb12s := hb12
     try simp at hb12s
     iterate 3 (refine wO fun K hK => ?_; simp [hN', hb8, hb8s, hb10, hb10s, hb12, hb12s]; refine hK _ ?_; clear hK)
     iterate 2 (refine wC rfl fun K hK => ?_; simp [hN', hb8, hb8s, hb10, hb10s, hb12, hb12s]; refine hK _ ?_; clear hK)
     iterate 3 (refine wO fun K hK => ?_; simp [hN', hb8, hb8s, hb10, hb10s, hb12, hb12s]; refine hK _ ?_; clear hK)
     iterate 2 (refine wC rfl fun K hK => ?_; simp [hN', hb8, hb8s, hb10, hb10s, hb12, hb12s]; refine hK _ ?_; clear hK)
     refine wN ?_
     cases hj3
     exact hK4 _ () [] trivial (by simp [hN', hb8, hb8s, hb10, hb10s, hb12, hb12s])
 rcases ite_or h with ⟨hb16, h⟩ | ⟨hb17, h⟩
 ·refine SWp.cT' (b := v15) (by simp) hb16 ?_
  refine SWp.sR rfl (hPB _ rfl) fun K hK => ?_
  refine wC rfl fun K hK => ?_; simp [hN']; refine hK _ ?_; clear hK
  refine wN (hK _ ?_); clear hK
  cases h
  refine SWp.ret ?_
  simp [thenS, iB, res69]
 ·refine SWp.cF' (b := v15) (by simp) hb17 ?_
  refine SWp.skip ?_
  show SWp E C _ _ _
  obtain ⟨j20, hj18, h⟩ := bS h
  refine SWp.seqC [2, 3] [2, 3] (fun v : Unit => ⟨[(2, .ref (.box 2) 0 []), (3, .ref (.box 3) 0 [])], [(2, [.sl false 4 (List.map (GNode.enc false) p1.Nodes), .sl false 5 (List.map (GFn.enc false) p1.Fns)]), (3, [vs f2.Name, .sl false 2 (List.map GParam.enc f2.Params), vi f2.Res, vi f2.Body, vi f2.Ret])]⟩) (fun v => j20 = Sum.inl v) (fun v hv => ?_) fun K19 hK19 => ?_
  rotate_left
  ·refine SWp.sR rfl (hPB _ rfl) fun K hK => ?_
   iterate 4 (refine wC rfl fun K hK => ?_; simp [hN']; refine hK _ ?_; clear hK)
   refine wN (hK _ ?_); clear hK
   refine SWp.block ?_
   refine SWp.loopO [] [2, 3, 33, 34, 35] [2, 3] (fun v : Int => ⟨[(2, .ref (.box 2) 0 []), (3, .ref (.box 3) 0 []), (33, .t (.sl false 2 (List.map GParam.enc f2.Params))), (34, .t (vi (f2.Params.length : Int))), (35, .t (vi v))], [(2, [.sl false 4 (List.map (GNode.enc false) p1.Nodes), .sl false 5 (List.map (GFn.enc false) p1.Fns)]), (3, [vs f2.Name, .sl false 2 (List.map GParam.enc f2.Params), vi f2.Res, vi f2.Body, vi f2.Ret])]⟩) (impl_fnOk_l1 f2) _ 0 hj18 (by simp [hN']) ?_
   intro g s24 h22 ho23
   obtain ⟨v21, hg⟩ : ∃ y, y = g := ⟨_, rfl⟩
   subst hg
   simp only [impl_fnOk_l1] at h22
   try dsimp only
   refine SWp.sR rfl (hPB _ rfl) fun K hK => ?_
   refine wC rfl fun K hK => ?_; simp [hN']; refine hK _ ?_; clear hK
   refine wN (hK _ ?_); clear hK
   refine SWp.seq ?_
   rcases ite_or h22 with ⟨hb25, h22⟩ | ⟨hb26, h22⟩
   ·refine SWp.cT' (b := decide (v21 < (f2.Params.length : Int))) (by simp) hb25 ?_
    refine SWp.skip ?_
    show SWp E C _ _ _
    refine SWp.seq ?_
    refine SWp.block ?_
    refine SWp.sR rfl (hPB _ rfl) fun K hK => ?_
    obtain ⟨e27, he27, h22⟩ := bS h22
    obtain ⟨he27a, he27b, he27c, he27d⟩ := gS he27
    iterate 4 (refine wC rfl fun K hK => ?_; simp [hN', he27a, he27b, he27c, he27d]; refine hK _ ?_; clear hK)
    refine wN (hK _ ?_); clear hK
    obtain ⟨v36, hj28, h22⟩ := bS h22
    refine SWp.seqRC rfl (hPB _ rfl) [2, 3, 33, 34, 35, 48] [2, 3] (fun _ : Unit => ⟨[(2, .ref (.box 2) 0 []), (3, .ref (.box 3) 0 []), (33, .t (.sl false 2 (List.map GParam.enc f2.Params))), (34, .t (vi (f2.Params.length : Int))), (35, .t (vi v21)), (48, .t (vb v36))], [(2, [.sl false 4 (List.map (GNode.enc false) p1.Nodes), .sl false 5 (List.map (GFn.enc false) p1.Fns)]), (3, [vs f2.Name, .sl false 2 (List.map GParam.enc f2.Params), vi f2.Res, vi f2.Body, vi f2.Ret])]⟩) (fun _ => True) (fun _ _ => ?_) fun K29 hK29 => ?_
    rotate_left
    ·refine wC rfl fun K hK => ?_; simp [hN']; refine hK _ ?_; clear hK
     refine wC rfl fun K hK => ?_; simp [hN']; refine hK _ ?_; clear hK
     obtain ⟨r30, hc31, hj28⟩ := bS hj28
     refine wL [(.take, .tmp 40)] rfl rfl ent94 (impl_NameOk_ok _ hc31) fun K hK => ?_; simp [hN']; refine hK _ ?_; clear hK
     iterate 2 (refine wC rfl fun K hK => ?_; simp [hN']; refine hK _ ?_; clear hK)
     rcases ite_or hj28 with ⟨hb32, hj28⟩ | ⟨hb33, hj28⟩
     ·have hb32s := hb32
      try simp at hb32s
      iterate 4 (refine wO fun K hK => ?_; simp [hN', hb32, hb32s]; refine hK _ ?_; clear hK)
      refine wC rfl fun K hK => ?_; simp [hN', hb32, hb32s]; refine hK _ ?_; clear hK
      refine wN ?_
      cases hj28
      exact hK29 _ () [] trivial (by simp [hN', hb32, hb32s])
     ·have hb33s := hb33
      try simp at hb33s
      iterate 2 (refine wC rfl fun K hK => ?_; simp [hN', hb33, hb33s]; refine hK _ ?_; clear hK)
      obtain ⟨r34, hc35, hj28⟩ := bS hj28
      refine wL [(.take, .tmp 45), (.take, .const (.int .i64 1)), (.take, .const (.int .i64 4))] rfl rfl ent52 (impl_in_ok _ _ _ hc35) fun K hK => ?_; simp [hN', hb33, hb33s]; refine hK _ ?_; clear hK
      iterate 2 (refine wC rfl fun K hK => ?_; simp [hN', hb33, hb33s]; refine hK _ ?_; clear hK)
      refine wN ?_
      cases hj28
      exact hK29 _ () [] trivial (by simp [hN', hb33, hb33s])
    rcases ite_or h22 with ⟨hb37, h22⟩ | ⟨hb38, h22⟩
    ·refine SWp.cT' (b := v36) (by simp) hb37 ?_
     refine SWp.sR rfl (hPB _ rfl) fun K hK => ?_
     refine wC rfl fun K hK => ?_; simp [hN']; refine hK _ ?_; clear hK
     refine wN (hK _ ?_); clear hK
     have h39 := congrArg some (ho23 _ (Option.some.inj h22).symm)
     cases h39
     try dsimp only at h
     cases h
     refine SWp.ret ?_
     simp [thenS, iB, res69]
    ·refine SWp.cF' (b := v36) (by simp) hb38 ?_
     refine SWp.skip ?_
     show SWp E C _ _ _
     refine SWp.reg rfl (hPB _ rfl) fun K hK => ?_
     iterate 2 (refine wC rfl fun K hK => ?_; simp [hN']; refine hK _ ?_; clear hK)
     refine wN (hK _ ?_); clear hK
     cases h22
     exact ⟨_, [], rfl, by simp [hN']⟩
   ·refine SWp.cF' (b := decide (v21 < (f2.Params.length : Int))) (by simp) hb26 ?_
    refine SWp.exit ?_
    have h40 := congrArg some (ho23 _ (Option.some.inj h22).symm)
    cases h40
    exact hK19 _ _ [] rfl (by simp [hN'])
  subst hv
  obtain ⟨⟩ := v
  try dsimp only at h ⊢
  refine SWp.seq ?_
  obtain ⟨v48, hj41, h⟩ := bS h
  refine SWp.seqRC rfl (hPB _ rfl) [2, 3, 67] [2, 3] (fun _ : Unit => ⟨[(2, .ref (.box 2) 0 []), (3, .ref (.box 3) 0 []), (67, .t (vb v48))], [(2, [.sl false 4 (List.map (GNode.enc false) p1.Nodes), .sl false 5 (List.map (GFn.enc false) p1.Fns)]), (3, [vs f2.Name, .sl false 2 (List.map GParam.enc f2.Params), vi f2.Res, vi f2.Body, vi f2.Ret])]⟩) (fun _ => True) (fun _ _ => ?_) fun K42 hK42 => ?_
  rotate_left
  ·refine wC rfl fun K hK => ?_; simp [hN']; refine hK _ ?_; clear hK
   iterate 5 (refine wC rfl fun K hK => ?_; simp [hN']; refine hK _ ?_; clear hK)
   obtain ⟨r43, hc44, hj41⟩ := bS hj41
   refine wL [(.take, .tmp 51), (.take, .const (.int .i64 0)), (.take, .tmp 55)] rfl rfl ent52 (impl_in_ok _ _ _ hc44) fun K hK => ?_; simp [hN']; refine hK _ ?_; clear hK
   iterate 2 (refine wC rfl fun K hK => ?_; simp [hN']; refine hK _ ?_; clear hK)
   rcases ite_or hj41 with ⟨hb45, hj41⟩ | ⟨hb46, hj41⟩
   ·have hb45s := hb45
    try simp at hb45s
    iterate 8 (refine wO fun K hK => ?_; simp [hN', hb45, hb45s]; refine hK _ ?_; clear hK)
    refine wC rfl fun K hK => ?_; simp [hN', hb45, hb45s]; refine hK _ ?_; clear hK
    refine wN ?_
    cases hj41
    exact hK42 _ () [] trivial (by simp [hN', hb45, hb45s])
   ·have hb46s := hb46
    try simp at hb46s
    iterate 4 (refine wC rfl fun K hK => ?_; simp [hN', hb46, hb46s]; refine hK _ ?_; clear hK)
    obtain ⟨e47, he47, hj41⟩ := bS hj41
    obtain ⟨he47a, he47b, he47c, he47d⟩ := gS he47
    have he47j := he47b; try simp at he47j
    try simp only [Int.toNat_natCast] at he47c he47d
    iterate 5 (refine wC rfl fun K hK => ?_; simp [hN', hb46, hb46s, he47a, he47b, he47c, he47d, he47j]; refine hK _ ?_; clear hK)
    refine wN ?_
    cases hj41
    exact hK42 _ () [] trivial (by simp [hN', hb46, hb46s, he47a, he47b, he47c, he47d, he47j])
  rcases ite_or h with ⟨hb49, h⟩ | ⟨hb50, h⟩
  ·refine SWp.cT' (b := v48) (by simp) hb49 ?_
   refine SWp.sR rfl (hPB _ rfl) fun K hK => ?_
   refine wC rfl fun K hK => ?_; simp [hN']; refine hK _ ?_; clear hK
   refine wN (hK _ ?_); clear hK
   cases h
   refine SWp.ret ?_
   simp [thenS, iB, res69]
  ·refine SWp.cF' (b := v48) (by simp) hb50 ?_
   refine SWp.skip ?_
   show SWp E C _ _ _
   refine SWp.seq ?_
   refine SWp.sR rfl (hPB _ rfl) fun K hK => ?_
   iterate 3 (refine wC rfl fun K hK => ?_; simp [hN']; refine hK _ ?_; clear hK)
   refine wN (hK _ ?_); clear hK
   rcases ite_or h with ⟨hb51, h⟩ | ⟨hb52, h⟩
   ·refine SWp.cT' (b := f2.Res == 0) (by simp) hb51 ?_
    refine SWp.sR rfl (hPB _ rfl) fun K hK => ?_
    iterate 4 (refine wC rfl fun K hK => ?_; simp [hN']; refine hK _ ?_; clear hK)
    refine wN (hK _ ?_); clear hK
    cases h
    refine SWp.ret ?_
    simp [thenS, iB, res69]
   ·refine SWp.cF' (b := f2.Res == 0) (by simp) hb52 ?_
    refine SWp.skip ?_
    show SWp E C _ _ _
    obtain ⟨v62, hj53, h⟩ := bS h
    refine SWp.seqRC rfl (hPB _ rfl) [4] [] (fun _ : Unit => ⟨[(4, .t (vb v62))], []⟩) (fun _ => True) (fun _ _ => ?_) fun K54 hK54 => ?_
    rotate_left
    ·refine wC rfl fun K hK => ?_; simp [hN']; refine hK _ ?_; clear hK
     iterate 5 (refine wC rfl fun K hK => ?_; simp [hN']; refine hK _ ?_; clear hK)
     obtain ⟨r55, hc56, hj53⟩ := bS hj53
     refine wL [(.take, .tmp 75), (.take, .const (.int .i64 0)), (.take, .tmp 79)] rfl rfl ent52 (impl_in_ok _ _ _ hc56) fun K hK => ?_; simp [hN']; refine hK _ ?_; clear hK
     refine wC rfl fun K hK => ?_; simp [hN']; refine hK _ ?_; clear hK
     rcases ite_or hj53 with ⟨hb57, hj53⟩ | ⟨hb58, hj53⟩
     ·have hb57s := hb57
      try simp at hb57s
      iterate 4 (refine wC rfl fun K hK => ?_; simp [hN', hb57, hb57s]; refine hK _ ?_; clear hK)
      obtain ⟨e59, he59, hj53⟩ := bS hj53
      obtain ⟨he59a, he59b, he59c, he59d⟩ := gS he59
      have he59j := he59b; try simp at he59j
      try simp only [Int.toNat_natCast] at he59c he59d
      iterate 3 (refine wC rfl fun K hK => ?_; simp [hN', hb57, hb57s, he59a, he59b, he59c, he59d, he59j]; refine hK _ ?_; clear hK)
      obtain ⟨r60, hc61, hj53⟩ := bS hj53
      refine wL [(.take, .tmp 88)] rfl rfl ent95 (impl_isValue_ok _ hc61) fun K hK => ?_; simp [hN', hb57, hb57s, he59a, he59b, he59c, he59d, he59j]; refine hK _ ?_; clear hK
      iterate 2 (refine wC rfl fun K hK => ?_; simp [hN', hb57, hb57s, he59a, he59b, he59c, he59d, he59j]; refine hK _ ?_; clear hK)
      refine wN ?_
      cases hj53
      exact hK54 _ () [] trivial (by simp [hN', hb57, hb57s, he59a, he59b, he59c, he59d, he59j])
     ·have hb58s := hb58
      try simp at hb58s
      iterate 8 (refine wO fun K hK => ?_; simp [hN', hb58, hb58s]; refine hK _ ?_; clear hK)
      iterate 2 (refine wC rfl fun K hK => ?_; simp [hN', hb58, hb58s]; refine hK _ ?_; clear hK)
      refine wN ?_
      cases hj53
      exact hK54 _ () [] trivial (by simp [hN', hb58, hb58s])
    cases h
    refine SWp.ret ?_
    simp [thenS, iB, res69]
theorem res70 : Tryz.f70.results.toList = [.tmp 4] := rfl
theorem ent70 : Enters E.P 70 := eO Tryz.func70 (by simp [Tryz.f70]) rfl
theorem impl_FnAt_ok (p1 : GProgram) (name2 : ByteArray) {r0 : Int} (h : impl_FnAt p1 name2 = some r0) : Ok E 70 [.val (GProgram.enc false p1), .val (vs name2)] [vi r0] [] := by
 refine oB (fn := Tryz.f70) Tryz.func70 rfl (by simp [Tryz.f70]) fun C hN hP => ?_
 have hPB : ∀ l, pinK [] l = true → pinB C.pin l = true := pO (by rw [hP]; rfl)
 have hN' : C.N = 21 := hN
 clear hN
 unfold impl_FnAt at h
 refine SWp.sR rfl (hPB _ rfl) fun K hK => ?_
 iterate 2 (refine wC rfl fun K hK => ?_; simp [hN']; refine hK _ ?_; clear hK)
 refine wN (hK _ ?_); clear hK
 obtain ⟨j5, hj3, h⟩ := bS h
 refine SWp.seqC [] [] (fun v : Unit => ⟨[], []⟩) (fun v => j5 = Sum.inl v) (fun v hv => ?_) fun K4 hK4 => ?_
 rotate_left
 ·refine SWp.sR rfl (hPB _ rfl) fun K hK => ?_
  iterate 4 (refine wC rfl fun K hK => ?_; simp [hN']; refine hK _ ?_; clear hK)
  refine wN (hK _ ?_); clear hK
  refine SWp.block ?_
  refine SWp.loopO [] [1, 8, 9, 10] [] (fun v : Int => ⟨[(1, .t (vs name2)), (8, .t (.sl false 5 (List.map (GFn.enc false) p1.Fns))), (9, .t (vi (p1.Fns.length : Int))), (10, .t (vi v))], []⟩) (impl_FnAt_l1 p1 name2) _ 0 hj3 (by simp [hN']) ?_
  intro g s9 h7 ho8
  obtain ⟨v6, hg⟩ : ∃ y, y = g := ⟨_, rfl⟩
  subst hg
  simp only [impl_FnAt_l1] at h7
  try dsimp only
  refine SWp.sR rfl (hPB _ rfl) fun K hK => ?_
  refine wC rfl fun K hK => ?_; simp [hN']; refine hK _ ?_; clear hK
  refine wN (hK _ ?_); clear hK
  refine SWp.seq ?_
  rcases ite_or h7 with ⟨hb10, h7⟩ | ⟨hb11, h7⟩
  ·refine SWp.cT' (b := decide (v6 < (p1.Fns.length : Int))) (by simp) hb10 ?_
   refine SWp.skip ?_
   show SWp E C _ _ _
   refine SWp.seq ?_
   refine SWp.block ?_
   refine SWp.sR rfl (hPB _ rfl) fun K hK => ?_
   refine wC rfl fun K hK => ?_; simp [hN']; refine hK _ ?_; clear hK
   obtain ⟨e12, he12, h7⟩ := bS h7
   obtain ⟨he12a, he12b, he12c, he12d⟩ := gS he12
   iterate 5 (refine wC rfl fun K hK => ?_; simp [hN', he12a, he12b, he12c, he12d]; refine hK _ ?_; clear hK)
   refine wN (hK _ ?_); clear hK
   refine SWp.sR rfl (hPB _ rfl) fun K hK => ?_
   iterate 4 (refine wC rfl fun K hK => ?_; simp [hN']; refine hK _ ?_; clear hK)
   refine wN (hK _ ?_); clear hK
   rcases ite_or h7 with ⟨hb13, h7⟩ | ⟨hb14, h7⟩
   ·refine SWp.cT' (b := sEq e12.Name name2) (by simp) hb13 ?_
    refine SWp.sR rfl (hPB _ rfl) fun K hK => ?_
    iterate 2 (refine wC rfl fun K hK => ?_; simp [hN']; refine hK _ ?_; clear hK)
    refine wN (hK _ ?_); clear hK
    have h15 := congrArg some (ho8 _ (Option.some.inj h7).symm)
    cases h15
    try dsimp only at h
    cases h
    refine SWp.ret ?_
    simp [thenS, iB, res70]
   ·refine SWp.cF' (b := sEq e12.Name name2) (by simp) hb14 ?_
    refine SWp.skip ?_
    show SWp E C _ _ _
    refine SWp.reg rfl (hPB _ rfl) fun K hK => ?_
    iterate 2 (refine wC rfl fun K hK => ?_; simp [hN']; refine hK _ ?_; clear hK)
    refine wN (hK _ ?_); clear hK
    cases h7
    exact ⟨_, [], rfl, by simp [hN']⟩
  ·refine SWp.cF' (b := decide (v6 < (p1.Fns.length : Int))) (by simp) hb11 ?_
   refine SWp.exit ?_
   have h16 := congrArg some (ho8 _ (Option.some.inj h7).symm)
   cases h16
   exact hK4 _ _ [] rfl (by simp [hN'])
 subst hv
 obtain ⟨⟩ := v
 try dsimp only at h ⊢
 refine SWp.sR rfl (hPB _ rfl) fun K hK => ?_
 refine wC rfl fun K hK => ?_; simp [hN']; refine hK _ ?_; clear hK
 refine wN (hK _ ?_); clear hK
 cases h
 refine SWp.ret ?_
 simp [thenS, iB, res70]
theorem res39 : Tryz.f39.results.toList = [.tmp 2] := rfl
theorem ent39 : Enters E.P 39 := eO Tryz.func39 (by simp [Tryz.f39]) rfl
theorem impl_ProgramOk_ok (p1 : GProgram) {r0 : Bool} (h : impl_ProgramOk p1 = some r0) : Ok E 39 [.val (GProgram.enc false p1)] [vb r0] [] := by
 refine oB (fn := Tryz.f39) Tryz.func39 rfl (by simp [Tryz.f39]) fun C hN hP => ?_
 have hPB : ∀ l, pinK [] l = true → pinB C.pin l = true := pO (by rw [hP]; rfl)
 have hN' : C.N = 115 := hN
 clear hN
 unfold impl_ProgramOk at h
 refine SWp.sR rfl (hPB _ rfl) fun K hK => ?_
 iterate 2 (refine wC rfl fun K hK => ?_; simp [hN']; refine hK _ ?_; clear hK)
 refine wN (hK _ ?_); clear hK
 refine SWp.sR rfl (hPB _ rfl) fun K hK => ?_
 iterate 4 (refine wC rfl fun K hK => ?_; simp [hN']; refine hK _ ?_; clear hK)
 refine wN (hK _ ?_); clear hK
 refine SWp.seq ?_
 obtain ⟨v14, hj2, h⟩ := bS h
 refine SWp.seqRC rfl (hPB _ rfl) [1, 3, 35] [1] (fun _ : Unit => ⟨[(1, .ref (.box 1) 0 []), (3, .t (vi (p1.Nodes.length : Int))), (35, .t (vb v14))], [(1, [.sl false 4 (List.map (GNode.enc false) p1.Nodes), .sl false 5 (List.map (GFn.enc false) p1.Fns)])]⟩) (fun _ => True) (fun _ _ => ?_) fun K3 hK3 => ?_
 rotate_left
 ·refine wC rfl fun K hK => ?_; simp [hN']; refine hK _ ?_; clear hK
  obtain ⟨r4, hc5, hj2⟩ := bS hj2
  refine wL [(.take, .tmp 18), (.take, .const (.int .i64 1)), (.take, .const (.int .i64 300))] rfl rfl ent52 (impl_in_ok _ _ _ hc5) fun K hK => ?_; simp [hN']; refine hK _ ?_; clear hK
  iterate 2 (refine wC rfl fun K hK => ?_; simp [hN']; refine hK _ ?_; clear hK)
  rcases ite_or hj2 with ⟨hb6, hj2⟩ | ⟨hb7, hj2⟩
  ·have hb6s := hb6
   try simp at hb6s
   iterate 5 (refine wO fun K hK => ?_; simp [hN', hb6, hb6s]; refine hK _ ?_; clear hK)
   iterate 2 (refine wC rfl fun K hK => ?_; simp [hN', hb6, hb6s]; refine hK _ ?_; clear hK)
   iterate 6 (refine wO fun K hK => ?_; simp [hN', hb6, hb6s]; refine hK _ ?_; clear hK)
   refine wC rfl fun K hK => ?_; simp [hN', hb6, hb6s]; refine hK _ ?_; clear hK
   refine wN ?_
   cases hj2
   exact hK3 _ () [] trivial (by simp [hN', hb6, hb6s])
  ·have hb7s := hb7
   try simp at hb7s
   iterate 3 (refine wC rfl fun K hK => ?_; simp [hN', hb7, hb7s]; refine hK _ ?_; clear hK)
   obtain ⟨r8, hc9, hj2⟩ := bS hj2
   refine wL [(.take, .tmp 24), (.take, .const (.int .i64 1)), (.take, .const (.int .i64 8))] rfl rfl ent52 (impl_in_ok _ _ _ hc9) fun K hK => ?_; simp [hN', hb7, hb7s]; refine hK _ ?_; clear hK
   iterate 3 (refine wC rfl fun K hK => ?_; simp [hN', hb7, hb7s]; refine hK _ ?_; clear hK)
   rcases ite_or hj2 with ⟨hb10, hj2⟩ | ⟨hb11, hj2⟩
   ·have hb10s := hb10
    try simp at hb10s
    iterate 6 (refine wO fun K hK => ?_; simp [hN', hb7, hb7s, hb10, hb10s]; refine hK _ ?_; clear hK)
    refine wC rfl fun K hK => ?_; simp [hN', hb7, hb7s, hb10, hb10s]; refine hK _ ?_; clear hK
    refine wN ?_
    cases hj2
    exact hK3 _ () [] trivial (by simp [hN', hb7, hb7s, hb10, hb10s])
   ·have hb11s := hb11
    try simp at hb11s
    iterate 4 (refine wC rfl fun K hK => ?_; simp [hN', hb7, hb7s, hb11, hb11s]; refine hK _ ?_; clear hK)
    obtain ⟨r12, hc13, hj2⟩ := bS hj2
    refine wL [(.take, .tmp 30), (.take, .tmp 32)] rfl rfl ent68 (impl_DeepOf_ok _ _ hc13) fun K hK => ?_; simp [hN', hb7, hb7s, hb11, hb11s]; refine hK _ ?_; clear hK
    iterate 2 (refine wC rfl fun K hK => ?_; simp [hN', hb7, hb7s, hb11, hb11s]; refine hK _ ?_; clear hK)
    refine wN ?_
    cases hj2
    exact hK3 _ () [] trivial (by simp [hN', hb7, hb7s, hb11, hb11s])
 rcases ite_or h with ⟨hb15, h⟩ | ⟨hb16, h⟩
 ·refine SWp.cT' (b := v14) (by simp) hb15 ?_
  refine SWp.sR rfl (hPB _ rfl) fun K hK => ?_
  refine wC rfl fun K hK => ?_; simp [hN']; refine hK _ ?_; clear hK
  refine wN (hK _ ?_); clear hK
  cases h
  refine SWp.ret ?_
  simp [thenS, iB, res39]
 ·refine SWp.cF' (b := v14) (by simp) hb16 ?_
  refine SWp.skip ?_
  show SWp E C _ _ _
  refine SWp.sR rfl (hPB _ rfl) fun K hK => ?_
  refine wC rfl fun K hK => ?_; simp [hN']; refine hK _ ?_; clear hK
  obtain ⟨l17, hl17, h⟩ := bS h
  obtain ⟨hl17a, hl17b, hl17c, hl17d⟩ := mS hl17
  have hl17f : List.replicate (p1.Nodes.length : Int).toNat (vi 0) = List.map vi l17 := rep_map (f := vi) hl17d
  try simp only [Int.toNat_natCast] at hl17f
  iterate 2 (refine wC rfl fun K hK => ?_; simp [hN', hl17a, hl17b, hl17c, hl17f]; refine hK _ ?_; clear hK)
  refine wN (hK _ ?_); clear hK
  obtain ⟨met45, hj18, h⟩ := bS h
  refine SWp.seqC [1, 4] [1] (fun _ : Unit => ⟨[(1, .ref (.box 1) 0 []), (4, .t (.sl true 1 (List.map vi met45)))], [(1, [.sl false 4 (List.map (GNode.enc false) p1.Nodes), .sl false 5 (List.map (GFn.enc false) p1.Fns)])]⟩) (fun _ => True) (fun _ _ => ?_) fun K19 hK19 => ?_
  rotate_left
  ·refine SWp.sR rfl (hPB _ rfl) fun K hK => ?_
   iterate 4 (refine wC rfl fun K hK => ?_; simp [hN']; refine hK _ ?_; clear hK)
   refine wN (hK _ ?_); clear hK
   refine SWp.block ?_
   refine SWp.loopO [] [1, 4, 39, 40, 41] [1] (fun v : (List Int) × Int => ⟨[(1, .ref (.box 1) 0 []), (4, .t (.sl true 1 (List.map vi v.1))), (39, .t (.sl false 4 (List.map (GNode.enc false) p1.Nodes))), (40, .t (vi (p1.Nodes.length : Int))), (41, .t (vi v.2))], [(1, [.sl false 4 (List.map (GNode.enc false) p1.Nodes), .sl false 5 (List.map (GFn.enc false) p1.Fns)])]⟩) (impl_ProgramOk_l1 p1) _ (l17, 0) hj18 (by simp [hN']) ?_
   intro g s25 h23 ho24
   obtain ⟨met21, v22⟩ := g
   simp only [impl_ProgramOk_l1] at h23
   try dsimp only
   refine SWp.sR rfl (hPB _ rfl) fun K hK => ?_
   refine wC rfl fun K hK => ?_; simp [hN']; refine hK _ ?_; clear hK
   refine wN (hK _ ?_); clear hK
   refine SWp.seq ?_
   rcases ite_or h23 with ⟨hb26, h23⟩ | ⟨hb27, h23⟩
   ·refine SWp.cT' (b := decide (v22 < (p1.Nodes.length : Int))) (by simp) hb26 ?_
    refine SWp.skip ?_
    show SWp E C _ _ _
    obtain ⟨met43, hj28, h23⟩ := bS h23
    refine SWp.seqC [1, 4, 39, 40, 41] [1] (fun _ : Unit => ⟨[(1, .ref (.box 1) 0 []), (4, .t (.sl true 1 (List.map vi met43))), (39, .t (.sl false 4 (List.map (GNode.enc false) p1.Nodes))), (40, .t (vi (p1.Nodes.length : Int))), (41, .t (vi v22))], [(1, [.sl false 4 (List.map (GNode.enc false) p1.Nodes), .sl false 5 (List.map (GFn.enc false) p1.Fns)])]⟩) (fun _ => True) (fun _ _ => ?_) fun K29 hK29 => ?_
    rotate_left
    ·refine SWp.block ?_
     refine SWp.sR rfl (hPB _ rfl) fun K hK => ?_
     obtain ⟨e31, he31, hj28⟩ := bS hj28
     obtain ⟨he31a, he31b, he31c, he31d⟩ := gS he31
     iterate 4 (refine wC rfl fun K hK => ?_; simp [hN', he31a, he31b, he31c, he31d]; refine hK _ ?_; clear hK)
     refine wN (hK _ ?_); clear hK
     refine SWp.sR rfl (hPB _ rfl) fun K hK => ?_
     iterate 4 (refine wC rfl fun K hK => ?_; simp [hN']; refine hK _ ?_; clear hK)
     refine wN (hK _ ?_); clear hK
     refine SWp.block ?_
     refine SWp.loopO [] [1, 4, 39, 40, 41, 46, 47, 48] [1] (fun v : (List Int) × Int => ⟨[(1, .ref (.box 1) 0 []), (4, .t (.sl true 1 (List.map vi v.1))), (39, .t (.sl false 4 (List.map (GNode.enc false) p1.Nodes))), (40, .t (vi (p1.Nodes.length : Int))), (41, .t (vi v22)), (46, .t (.sl false 1 (List.map vi e31.Kids))), (47, .t (vi (e31.Kids.length : Int))), (48, .t (vi v.2))], [(1, [.sl false 4 (List.map (GNode.enc false) p1.Nodes), .sl false 5 (List.map (GFn.enc false) p1.Fns)])]⟩) (impl_ProgramOk_l2 e31) _ (met21, 0) hj28 (by simp [hN']) ?_
     intro g s36 h34 ho35
     obtain ⟨met32, v33⟩ := g
     simp only [impl_ProgramOk_l2] at h34
     try dsimp only
     refine SWp.sR rfl (hPB _ rfl) fun K hK => ?_
     refine wC rfl fun K hK => ?_; simp [hN']; refine hK _ ?_; clear hK
     refine wN (hK _ ?_); clear hK
     refine SWp.seq ?_
     rcases ite_or h34 with ⟨hb37, h34⟩ | ⟨hb38, h34⟩
     ·refine SWp.cT' (b := decide (v33 < (e31.Kids.length : Int))) (by simp) hb37 ?_
      refine SWp.skip ?_
      show SWp E C _ _ _
      refine SWp.seq ?_
      refine SWp.block ?_
      refine SWp.sR rfl (hPB _ rfl) fun K hK => ?_
      obtain ⟨e39, he39, h34⟩ := bS h34
      obtain ⟨he39a, he39b, he39c, he39d⟩ := gS he39
      iterate 3 (refine wC rfl fun K hK => ?_; simp [hN', he39a, he39b, he39c, he39d]; refine hK _ ?_; clear hK)
      refine wN (hK _ ?_); clear hK
      refine SWp.reg rfl (hPB _ rfl) fun K hK => ?_
      iterate 2 (refine wC rfl fun K hK => ?_; simp [hN']; refine hK _ ?_; clear hK)
      obtain ⟨e40, he40, h34⟩ := bS h34
      obtain ⟨he40a, he40b, he40c, he40d⟩ := gS he40
      iterate 4 (refine wC rfl fun K hK => ?_; simp [hN', he40a, he40b, he40c, he40d]; refine hK _ ?_; clear hK)
      obtain ⟨l41, hl41, h34⟩ := bZ h34
      have hl41f : (List.map vi met32).set e39.toNat (vi (IntKind.wrap .i64 (e40 + 1))) = List.map vi l41 := set_map (f := vi) hl41
      try simp only [Int.toNat_natCast] at hl41f
      refine wC rfl fun K hK => ?_; simp [hN', he40a, he40b, he40c, he40d, hl41f]; refine hK _ ?_; clear hK
      refine wN (hK _ ?_); clear hK
      show SWp E C _ _ _
      refine SWp.reg rfl (hPB _ rfl) fun K hK => ?_
      iterate 2 (refine wC rfl fun K hK => ?_; simp [hN']; refine hK _ ?_; clear hK)
      refine wN (hK _ ?_); clear hK
      cases h34
      exact ⟨_, [], rfl, by simp [hN']⟩
     ·refine SWp.cF' (b := decide (v33 < (e31.Kids.length : Int))) (by simp) hb38 ?_
      refine SWp.exit ?_
      have h42 := congrArg some (ho35 _ (Option.some.inj h34).symm)
      cases h42
      exact hK29 _ () [] trivial (by simp [hN'])
    refine SWp.reg rfl (hPB _ rfl) fun K hK => ?_
    iterate 2 (refine wC rfl fun K hK => ?_; simp [hN']; refine hK _ ?_; clear hK)
    refine wN (hK _ ?_); clear hK
    cases h23
    exact ⟨_, [], rfl, by simp [hN']⟩
   ·refine SWp.cF' (b := decide (v22 < (p1.Nodes.length : Int))) (by simp) hb27 ?_
    refine SWp.exit ?_
    have h44 := congrArg some (ho24 _ (Option.some.inj h23).symm)
    cases h44
    exact hK19 _ () [] trivial (by simp [hN'])
  obtain ⟨j48, hj46, h⟩ := bS h
  refine SWp.seqC [4] [] (fun v : List Int => ⟨[(4, .t (.sl true 1 (List.map vi v)))], []⟩) (fun v => j48 = Sum.inl v) (fun v hv => ?_) fun K47 hK47 => ?_
  rotate_left
  ·refine SWp.sR rfl (hPB _ rfl) fun K hK => ?_
   iterate 4 (refine wC rfl fun K hK => ?_; simp [hN']; refine hK _ ?_; clear hK)
   refine wN (hK _ ?_); clear hK
   refine SWp.block ?_
   refine SWp.loopO [] [1, 4, 61, 62, 63] [1] (fun v : (List Int) × Int => ⟨[(1, .ref (.box 1) 0 []), (4, .t (.sl true 1 (List.map vi v.1))), (61, .t (.sl false 5 (List.map (GFn.enc false) p1.Fns))), (62, .t (vi (p1.Fns.length : Int))), (63, .t (vi v.2))], [(1, [.sl false 4 (List.map (GNode.enc false) p1.Nodes), .sl false 5 (List.map (GFn.enc false) p1.Fns)])]⟩) (impl_ProgramOk_l3 p1) _ (met45, 0) hj46 (by simp [hN']) ?_
   intro g s53 h51 ho52
   obtain ⟨met49, v50⟩ := g
   simp only [impl_ProgramOk_l3] at h51
   try dsimp only
   refine SWp.sR rfl (hPB _ rfl) fun K hK => ?_
   refine wC rfl fun K hK => ?_; simp [hN']; refine hK _ ?_; clear hK
   refine wN (hK _ ?_); clear hK
   refine SWp.seq ?_
   rcases ite_or h51 with ⟨hb54, h51⟩ | ⟨hb55, h51⟩
   ·refine SWp.cT' (b := decide (v50 < (p1.Fns.length : Int))) (by simp) hb54 ?_
    refine SWp.skip ?_
    show SWp E C _ _ _
    obtain ⟨j58, hj56, h51⟩ := bS h51
    refine SWp.seqC [1, 4, 61, 62, 63] [1] (fun v : List Int => ⟨[(1, .ref (.box 1) 0 []), (4, .t (.sl true 1 (List.map vi v))), (61, .t (.sl false 5 (List.map (GFn.enc false) p1.Fns))), (62, .t (vi (p1.Fns.length : Int))), (63, .t (vi v50))], [(1, [.sl false 4 (List.map (GNode.enc false) p1.Nodes), .sl false 5 (List.map (GFn.enc false) p1.Fns)])]⟩) (fun v => j58 = Sum.inl v) (fun v hv => ?_) fun K57 hK57 => ?_
    rotate_left
    ·refine SWp.block ?_
     refine SWp.sR rfl (hPB _ rfl) fun K hK => ?_
     refine wC rfl fun K hK => ?_; simp [hN']; refine hK _ ?_; clear hK
     obtain ⟨e59, he59, hj56⟩ := bS hj56
     obtain ⟨he59a, he59b, he59c, he59d⟩ := gS he59
     iterate 5 (refine wC rfl fun K hK => ?_; simp [hN', he59a, he59b, he59c, he59d]; refine hK _ ?_; clear hK)
     refine wN (hK _ ?_); clear hK
     refine SWp.seq ?_
     obtain ⟨v68, hj60, hj56⟩ := bS hj56
     refine SWp.seqRC rfl (hPB _ rfl) [1, 4, 10, 61, 62, 63, 79] [1, 10] (fun _ : Unit => ⟨[(1, .ref (.box 1) 0 []), (4, .t (.sl true 1 (List.map vi met49))), (10, .ref (.box 10) 0 []), (61, .t (.sl false 5 (List.map (GFn.enc false) p1.Fns))), (62, .t (vi (p1.Fns.length : Int))), (63, .t (vi v50)), (79, .t (vb v68))], [(1, [.sl false 4 (List.map (GNode.enc false) p1.Nodes), .sl false 5 (List.map (GFn.enc false) p1.Fns)]), (10, [vs e59.Name, .sl false 2 (List.map GParam.enc e59.Params), vi e59.Res, vi e59.Body, vi e59.Ret])]⟩) (fun _ => True) (fun _ _ => ?_) fun K61 hK61 => ?_
     rotate_left
     ·refine wC rfl fun K hK => ?_; simp [hN']; refine hK _ ?_; clear hK
      refine wC rfl fun K hK => ?_; simp [hN']; refine hK _ ?_; clear hK
      obtain ⟨r62, hc63, hj60⟩ := bS hj60
      refine wL [(.take, .tmp 68), (.take, .tmp 69)] rfl rfl ent69 (impl_fnOk_ok _ _ hc63) fun K hK => ?_; simp [hN']; refine hK _ ?_; clear hK
      iterate 2 (refine wC rfl fun K hK => ?_; simp [hN']; refine hK _ ?_; clear hK)
      rcases ite_or hj60 with ⟨hb64, hj60⟩ | ⟨hb65, hj60⟩
      ·have hb64s := hb64
       try simp at hb64s
       iterate 6 (refine wO fun K hK => ?_; simp [hN', hb64, hb64s]; refine hK _ ?_; clear hK)
       refine wC rfl fun K hK => ?_; simp [hN', hb64, hb64s]; refine hK _ ?_; clear hK
       refine wN ?_
       cases hj60
       exact hK61 _ () [] trivial (by simp [hN', hb64, hb64s])
      ·have hb65s := hb65
       try simp at hb65s
       iterate 3 (refine wC rfl fun K hK => ?_; simp [hN', hb65, hb65s]; refine hK _ ?_; clear hK)
       obtain ⟨r66, hc67, hj60⟩ := bS hj60
       refine wL [(.take, .tmp 73), (.take, .tmp 75)] rfl rfl ent70 (impl_FnAt_ok _ _ hc67) fun K hK => ?_; simp [hN', hb65, hb65s]; refine hK _ ?_; clear hK
       iterate 3 (refine wC rfl fun K hK => ?_; simp [hN', hb65, hb65s]; refine hK _ ?_; clear hK)
       refine wN ?_
       cases hj60
       exact hK61 _ () [] trivial (by simp [hN', hb65, hb65s])
     rcases ite_or hj56 with ⟨hb69, hj56⟩ | ⟨hb70, hj56⟩
     ·refine SWp.cT' (b := v68) (by simp) hb69 ?_
      refine SWp.sR rfl (hPB _ rfl) fun K hK => ?_
      refine wC rfl fun K hK => ?_; simp [hN']; refine hK _ ?_; clear hK
      refine wN (hK _ ?_); clear hK
      cases hj56
      try dsimp only at h51
      have h71 := congrArg some (ho52 _ (Option.some.inj h51).symm)
      cases h71
      try dsimp only at h
      cases h
      refine SWp.ret ?_
      simp [thenS, iB, res39]
     ·refine SWp.cF' (b := v68) (by simp) hb70 ?_
      refine SWp.skip ?_
      show SWp E C _ _ _
      refine SWp.sR rfl (hPB _ rfl) fun K hK => ?_
      iterate 7 (refine wC rfl fun K hK => ?_; simp [hN']; refine hK _ ?_; clear hK)
      refine wN (hK _ ?_); clear hK
      refine SWp.block ?_
      refine SWp.loopO [] [1, 4, 61, 62, 63, 84, 85, 86] [1] (fun v : (List Int) × Int => ⟨[(1, .ref (.box 1) 0 []), (4, .t (.sl true 1 (List.map vi v.1))), (61, .t (.sl false 5 (List.map (GFn.enc false) p1.Fns))), (62, .t (vi (p1.Fns.length : Int))), (63, .t (vi v50)), (84, .t (.sl true 1 (List.map vi [e59.Body, e59.Ret]))), (85, .t (vi ([e59.Body, e59.Ret].length : Int))), (86, .t (vi v.2))], [(1, [.sl false 4 (List.map (GNode.enc false) p1.Nodes), .sl false 5 (List.map (GFn.enc false) p1.Fns)])]⟩) (impl_ProgramOk_l4 e59) _ (met49, 0) hj56 (by simp [hN']) ?_
      intro g s76 h74 ho75
      obtain ⟨met72, v73⟩ := g
      simp only [impl_ProgramOk_l4] at h74
      try dsimp only
      refine SWp.sR rfl (hPB _ rfl) fun K hK => ?_
      refine wC rfl fun K hK => ?_; simp [hN']; refine hK _ ?_; clear hK
      refine wN (hK _ ?_); clear hK
      refine SWp.seq ?_
      rcases ite_or h74 with ⟨hb77, h74⟩ | ⟨hb78, h74⟩
      ·refine SWp.cT' (b := decide (v73 < ([e59.Body, e59.Ret].length : Int))) (by simp) hb77 ?_
       refine SWp.skip ?_
       show SWp E C _ _ _
       refine SWp.seq ?_
       refine SWp.block ?_
       refine SWp.sR rfl (hPB _ rfl) fun K hK => ?_
       obtain ⟨e79, he79, h74⟩ := bS h74
       obtain ⟨he79a, he79b, he79c, he79d⟩ := gS he79
       have he79k := he79b; try simp at he79k
       have he79l : (List.map vi [e59.Body, e59.Ret])[v73.toNat]? = some (vi e79) := by rw [List.getElem?_map, he79c]; rfl
       try simp only [List.map_cons, List.map_nil] at he79l
       have he79m := (List.getElem?_eq_some_iff.1 he79l).2
       iterate 3 (refine wC rfl fun K hK => ?_; simp [hN', he79a, he79b, he79c, he79d, he79k, he79l, he79m]; refine hK _ ?_; clear hK)
       refine wN (hK _ ?_); clear hK
       refine SWp.seq ?_
       refine SWp.sR rfl (hPB _ rfl) fun K hK => ?_
       iterate 2 (refine wC rfl fun K hK => ?_; simp [hN']; refine hK _ ?_; clear hK)
       refine wN (hK _ ?_); clear hK
       rcases ite_or h74 with ⟨hb80, h74⟩ | ⟨hb81, h74⟩
       ·refine SWp.cT' (b := decide (e79 < 0)) (by simp) hb80 ?_
        refine SWp.exit ?_
        show SWp E C _ _ _
        refine SWp.reg rfl (hPB _ rfl) fun K hK => ?_
        iterate 2 (refine wC rfl fun K hK => ?_; simp [hN']; refine hK _ ?_; clear hK)
        refine wN (hK _ ?_); clear hK
        cases h74
        exact ⟨_, [], rfl, by simp [hN']⟩
       ·refine SWp.cF' (b := decide (e79 < 0)) (by simp) hb81 ?_
        refine SWp.skip ?_
        show SWp E C _ _ _
        refine SWp.seq ?_
        refine SWp.sR rfl (hPB _ rfl) fun K hK => ?_
        iterate 2 (refine wC rfl fun K hK => ?_; simp [hN']; refine hK _ ?_; clear hK)
        obtain ⟨e82, he82, h74⟩ := bS h74
        obtain ⟨he82a, he82b, he82c, he82d⟩ := gS he82
        iterate 3 (refine wC rfl fun K hK => ?_; simp [hN', he82a, he82b, he82c, he82d]; refine hK _ ?_; clear hK)
        refine wN (hK _ ?_); clear hK
        rcases ite_or h74 with ⟨hb83, h74⟩ | ⟨hb84, h74⟩
        ·refine SWp.cT' (b := e82 != 0) (by simp) hb83 ?_
         refine SWp.sR rfl (hPB _ rfl) fun K hK => ?_
         refine wC rfl fun K hK => ?_; simp [hN']; refine hK _ ?_; clear hK
         refine wN (hK _ ?_); clear hK
         have h85 := congrArg some (ho75 _ (Option.some.inj h74).symm)
         cases h85
         try dsimp only at h51
         have h86 := congrArg some (ho52 _ (Option.some.inj h51).symm)
         cases h86
         try dsimp only at h
         cases h
         refine SWp.ret ?_
         simp [thenS, iB, res39]
        ·refine SWp.cF' (b := e82 != 0) (by simp) hb84 ?_
         refine SWp.skip ?_
         show SWp E C _ _ _
         refine SWp.reg rfl (hPB _ rfl) fun K hK => ?_
         iterate 2 (refine wC rfl fun K hK => ?_; simp [hN']; refine hK _ ?_; clear hK)
         obtain ⟨e87, he87, h74⟩ := bS h74
         obtain ⟨he87a, he87b, he87c, he87d⟩ := gS he87
         refine wC rfl fun K hK => ?_; simp [hN', he87a, he87b, he87c, he87d]; refine hK _ ?_; clear hK
         obtain ⟨l88, hl88, h74⟩ := bZ h74
         have hl88f : (List.map vi met72).set e79.toNat (vi (-1)) = List.map vi l88 := set_map (f := vi) hl88
         try simp only [Int.toNat_natCast] at hl88f
         refine wC rfl fun K hK => ?_; simp [hN', he87a, he87b, he87c, he87d, hl88f]; refine hK _ ?_; clear hK
         refine wN (hK _ ?_); clear hK
         show SWp E C _ _ _
         refine SWp.reg rfl (hPB _ rfl) fun K hK => ?_
         iterate 2 (refine wC rfl fun K hK => ?_; simp [hN']; refine hK _ ?_; clear hK)
         refine wN (hK _ ?_); clear hK
         cases h74
         exact ⟨_, [], rfl, by simp [hN']⟩
      ·refine SWp.cF' (b := decide (v73 < ([e59.Body, e59.Ret].length : Int))) (by simp) hb78 ?_
       refine SWp.exit ?_
       have h89 := congrArg some (ho75 _ (Option.some.inj h74).symm)
       cases h89
       exact hK57 _ _ [] rfl (by simp [hN'])
    subst hv
    obtain ⟨met90, hv⟩ : ∃ y, y = v := ⟨_, rfl⟩
    subst hv
    try dsimp only at h51 ⊢
    refine SWp.reg rfl (hPB _ rfl) fun K hK => ?_
    iterate 2 (refine wC rfl fun K hK => ?_; simp [hN']; refine hK _ ?_; clear hK)
    refine wN (hK _ ?_); clear hK
    cases h51
    exact ⟨_, [], rfl, by simp [hN']⟩
   ·refine SWp.cF' (b := decide (v50 < (p1.Fns.length : Int))) (by simp) hb55 ?_
    refine SWp.exit ?_
    have h91 := congrArg some (ho52 _ (Option.some.inj h51).symm)
    cases h91
    exact hK47 _ _ [] rfl (by simp [hN'])
  subst hv
  obtain ⟨met92, hv⟩ : ∃ y, y = v := ⟨_, rfl⟩
  subst hv
  try dsimp only at h ⊢
  obtain ⟨j95, hj93, h⟩ := bS h
  refine SWp.seqC [] [] (fun v : Unit => ⟨[], []⟩) (fun v => j95 = Sum.inl v) (fun v hv => ?_) fun K94 hK94 => ?_
  rotate_left
  ·refine SWp.sR rfl (hPB _ rfl) fun K hK => ?_
   iterate 3 (refine wC rfl fun K hK => ?_; simp [hN']; refine hK _ ?_; clear hK)
   refine wN (hK _ ?_); clear hK
   refine SWp.block ?_
   refine SWp.loopO [] [4, 102, 103, 104] [] (fun v : Int => ⟨[(4, .t (.sl true 1 (List.map vi met92))), (102, .al (.slot 4) 0 [] none), (103, .t (vi (met92.length : Int))), (104, .t (vi v))], []⟩) (impl_ProgramOk_l5 met92) _ 0 hj93 (by simp [hN']) ?_
   intro g s99 h97 ho98
   obtain ⟨v96, hg⟩ : ∃ y, y = g := ⟨_, rfl⟩
   subst hg
   simp only [impl_ProgramOk_l5] at h97
   try dsimp only
   refine SWp.sR rfl (hPB _ rfl) fun K hK => ?_
   refine wC rfl fun K hK => ?_; simp [hN']; refine hK _ ?_; clear hK
   refine wN (hK _ ?_); clear hK
   refine SWp.seq ?_
   rcases ite_or h97 with ⟨hb100, h97⟩ | ⟨hb101, h97⟩
   ·refine SWp.cT' (b := decide (v96 < (met92.length : Int))) (by simp) hb100 ?_
    refine SWp.skip ?_
    show SWp E C _ _ _
    refine SWp.seq ?_
    refine SWp.block ?_
    refine SWp.sR rfl (hPB _ rfl) fun K hK => ?_
    obtain ⟨e102, he102, h97⟩ := bS h97
    obtain ⟨he102a, he102b, he102c, he102d⟩ := gS he102
    iterate 3 (refine wC rfl fun K hK => ?_; simp [hN', he102a, he102b, he102c, he102d]; refine hK _ ?_; clear hK)
    refine wN (hK _ ?_); clear hK
    obtain ⟨v107, hj103, h97⟩ := bS h97
    refine SWp.seqRC rfl (hPB _ rfl) [4, 102, 103, 104, 113] [] (fun _ : Unit => ⟨[(4, .t (.sl true 1 (List.map vi met92))), (102, .al (.slot 4) 0 [] none), (103, .t (vi (met92.length : Int))), (104, .t (vi v96)), (113, .t (vb v107))], []⟩) (fun _ => True) (fun _ _ => ?_) fun K104 hK104 => ?_
    rotate_left
    ·refine wC rfl fun K hK => ?_; simp [hN']; refine hK _ ?_; clear hK
     iterate 2 (refine wC rfl fun K hK => ?_; simp [hN']; refine hK _ ?_; clear hK)
     rcases ite_or hj103 with ⟨hb105, hj103⟩ | ⟨hb106, hj103⟩
     ·have hb105s := hb105
      try simp at hb105s
      iterate 3 (refine wC rfl fun K hK => ?_; simp [hN', hb105, hb105s]; refine hK _ ?_; clear hK)
      refine wN ?_
      cases hj103
      exact hK104 _ () [] trivial (by simp [hN', hb105, hb105s])
     ·have hb106s := hb106
      try simp at hb106s
      iterate 2 (refine wO fun K hK => ?_; simp [hN', hb106, hb106s]; refine hK _ ?_; clear hK)
      refine wC rfl fun K hK => ?_; simp [hN', hb106, hb106s]; refine hK _ ?_; clear hK
      refine wN ?_
      cases hj103
      exact hK104 _ () [] trivial (by simp [hN', hb106, hb106s])
    rcases ite_or h97 with ⟨hb108, h97⟩ | ⟨hb109, h97⟩
    ·refine SWp.cT' (b := v107) (by simp) hb108 ?_
     refine SWp.sR rfl (hPB _ rfl) fun K hK => ?_
     refine wC rfl fun K hK => ?_; simp [hN']; refine hK _ ?_; clear hK
     refine wN (hK _ ?_); clear hK
     have h110 := congrArg some (ho98 _ (Option.some.inj h97).symm)
     cases h110
     try dsimp only at h
     cases h
     refine SWp.ret ?_
     simp [thenS, iB, res39]
    ·refine SWp.cF' (b := v107) (by simp) hb109 ?_
     refine SWp.skip ?_
     show SWp E C _ _ _
     refine SWp.reg rfl (hPB _ rfl) fun K hK => ?_
     iterate 2 (refine wC rfl fun K hK => ?_; simp [hN']; refine hK _ ?_; clear hK)
     refine wN (hK _ ?_); clear hK
     cases h97
     exact ⟨_, [], rfl, by simp [hN']⟩
   ·refine SWp.cF' (b := decide (v96 < (met92.length : Int))) (by simp) hb101 ?_
    refine SWp.exit ?_
    have h111 := congrArg some (ho98 _ (Option.some.inj h97).symm)
    cases h111
    exact hK94 _ _ [] rfl (by simp [hN'])
  subst hv
  obtain ⟨⟩ := v
  try dsimp only at h ⊢
  refine SWp.sR rfl (hPB _ rfl) fun K hK => ?_
  refine wC rfl fun K hK => ?_; simp [hN']; refine hK _ ?_; clear hK
  refine wN (hK _ ?_); clear hK
  cases h
  refine SWp.ret ?_
  simp [thenS, iB, res39]
theorem res96 : Tryz.f96.results.toList = [.tmp 2] := rfl
theorem ent96 : Enters E.P 96 := eO Tryz.func96 (by simp [Tryz.f96]) rfl
theorem impl_copyInts_ok (l1 : List Int) {r0 : List Int} (h : impl_copyInts l1 = some r0) : Ok E 96 [.val (.sl false 1 (List.map vi l1))] [.sl true 1 (List.map vi r0)] [] := by
 refine oB (fn := Tryz.f96) Tryz.func96 rfl (by simp [Tryz.f96]) fun C hN hP => ?_
 have u : ∀ l, pinK [] l = true → pinB C.pin l = true := pO (by rw [hP]; rfl)
 have y : C.N = 5 := hN
 clear hN
 unfold impl_copyInts at h
 refine SWp.sR rfl (u _ rfl) fun K q => ?_
 refine wC rfl fun K q => ?_; simp [y]; refine q _ ?_; clear q
 refine wN (q _ ?_); clear q
 refine SWp.sR rfl (u _ rfl) fun K q => ?_
 refine wC rfl fun K q => ?_; simp [y]; refine q _ ?_; clear q
 obtain ⟨l2, hl2, h⟩ := bS h
 obtain ⟨hl2a, hl2b, hl2d⟩ := aS hl2
 simp [eSl] at hl2a hl2b
 iterate 2 (refine wC rfl fun K q => ?_; simp [y, hl2a, hl2b]; refine q _ ?_; clear q)
 refine wN (q _ ?_); clear q
 cases h
 refine SWp.ret ?_
 simp [thenS, iB, res96]
end Go.Proofs.T
