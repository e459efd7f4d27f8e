import Derived.Test.YtchcogjfmbfccaaDoorTA
import Derived.Shelf.Strconv.Itoa0
import Derived.Shelf.Strconv.Itoa1
import Derived.Shelf.LaysM
import Derived.Shelf.Strconv.Itoa2
import Derived.Shelf.Strconv.Itoa3
import Derived.Shelf.Strings.Search1
import Derived.Shelf.Strings.Search2
import Derived.Shelf.Strings.Search3
import Derived.Shelf.Strings.Count
import Derived.Shelf.Strings.Shaped
import Derived.Shelf.Strings.Split
import Derived.Shelf.Unicode.DecodeSlow
import Derived.Test.YtchcogjfmbfccaaDoorProg
set_option linter.unusedVariables false
set_option linter.unusedSimpArgs false
set_option maxHeartbeats 1000000
namespace Go.Proofs.T
open Go.OM
theorem res83 : Tryd.f83.results.toList = [.tmp 4] := rfl
theorem ent83 : Enters E.P 83 := enters_of Tryd.func83 (by simp [Tryd.f83]) rfl
theorem spec_WordOk_ok (c1 : GCode) (x2 : GIns) {r0 : Bool} (h : spec_WordOk c1 x2 = some r0) : Ok E 83 [.val (GCode.enc false c1), .val (GIns.enc false x2)] [vb r0] [] := by
  refine ok_of_body (fn := Tryd.f83) Tryd.func83 rfl (by simp [Tryd.f83]) fun C hN hP => ?_
  have hPB : ∀ l, pinK [] l = true → pinB C.pin l = true := pinB_of (by rw [hP]; rfl)
  have hN' : C.N = 116 := hN
  clear hN
  unfold spec_WordOk at h
  refine SWp.seqR rfl (hPB _ rfl) fun K hK => ?_
  iterate 3 (refine wps_cons rfl fun K hK => ?_; simp [hN']; refine hK _ ?_; clear hK)
  refine wps_nil (hK _ ?_); clear hK
  refine SWp.seq ?_
  obtain ⟨v11, hj3, h⟩ := bind_some h
  refine SWp.seqRC rfl (hPB _ rfl) [2, 3, 15] [2, 3] (fun _ : Unit => ⟨[(2, .ref (.box 2) 0 []), (3, .ref (.box 3) 0 []), (15, .t (vb v11))], [(2, [vs c1.Name, vi c1.Params, .sl false 1 (List.map vi c1.Locals), .sl false 7 (List.map (GIns.enc false) c1.Words)]), (3, [vi x2.Op, vi x2.A, vi x2.B, vi x2.C, vi x2.Num, vs x2.Name, .sl false 1 (List.map vi x2.Args)])]⟩) (fun _ => True) (fun _ _ => ?_) fun K4 hK4 => ?_
  rotate_left
  · refine wps_cons rfl fun K hK => ?_; simp [hN']; refine hK _ ?_; clear hK
    refine wps_cons rfl fun K hK => ?_; simp [hN']; refine hK _ ?_; clear hK
    obtain ⟨r5, hc6, hj3⟩ := bind_some hj3
    refine wps_call [(.take, .tmp 7), (.take, .const (.int .i64 1)), (.take, .const (.int .i64 20))] rfl rfl ent82 (spec_l01In_ok _ _ _ hc6) fun K hK => ?_; simp [hN']; refine hK _ ?_; clear hK
    iterate 2 (refine wps_cons rfl fun K hK => ?_; simp [hN']; refine hK _ ?_; clear hK)
    rcases ite_or hj3 with ⟨hb7, hj3⟩ | ⟨hb8, hj3⟩
    · have hb7s := hb7
      try simp at hb7s
      iterate 4 (refine wps_off fun K hK => ?_; simp [hN', hb7, hb7s]; refine hK _ ?_; clear hK)
      refine wps_cons rfl fun K hK => ?_; simp [hN', hb7, hb7s]; refine hK _ ?_; clear hK
      refine wps_nil ?_
      cases hj3
      exact hK4 _ () [] trivial (by simp [hN', hb7, hb7s])
    · have hb8s := hb8
      try simp at hb8s
      iterate 2 (refine wps_cons rfl fun K hK => ?_; simp [hN', hb8, hb8s]; refine hK _ ?_; clear hK)
      obtain ⟨r9, hc10, hj3⟩ := bind_some hj3
      refine wps_call [(.take, .tmp 11), (.take, .tmp 12)] rfl rfl ent109 (spec_l11A_ok _ _ hc10) fun K hK => ?_; simp [hN', hb8, hb8s]; refine hK _ ?_; clear hK
      iterate 2 (refine wps_cons rfl fun K hK => ?_; simp [hN', hb8, hb8s]; refine hK _ ?_; clear hK)
      refine wps_nil ?_
      cases hj3
      exact hK4 _ () [] trivial (by simp [hN', hb8, hb8s])
  rcases ite_or h with ⟨hb12, h⟩ | ⟨hb13, h⟩
  · refine SWp.condT' (b := v11) (by simp) hb12 ?_
    refine SWp.seqR rfl (hPB _ rfl) fun K hK => ?_
    refine wps_cons rfl fun K hK => ?_; simp [hN']; refine hK _ ?_; clear hK
    refine wps_nil (hK _ ?_); clear hK
    cases h
    refine SWp.ret ?_
    simp [thenS, inBlockS, res83]
  · refine SWp.condF' (b := v11) (by simp) hb13 ?_
    refine SWp.skip ?_
    show SWp E C _ _ _
    refine SWp.seq ?_
    obtain ⟨v32, hj14, h⟩ := bind_some h
    refine SWp.seqRC rfl (hPB _ rfl) [2, 3, 36] [2, 3] (fun _ : Unit => ⟨[(2, .ref (.box 2) 0 []), (3, .ref (.box 3) 0 []), (36, .t (vb v32))], [(2, [vs c1.Name, vi c1.Params, .sl false 1 (List.map vi c1.Locals), .sl false 7 (List.map (GIns.enc false) c1.Words)]), (3, [vi x2.Op, vi x2.A, vi x2.B, vi x2.C, vi x2.Num, vs x2.Name, .sl false 1 (List.map vi x2.Args)])]⟩) (fun _ => True) (fun _ _ => ?_) fun K15 hK15 => ?_
    rotate_left
    · refine wps_cons rfl fun K hK => ?_; simp [hN']; refine hK _ ?_; clear hK
      refine wps_cons rfl fun K hK => ?_; simp [hN']; refine hK _ ?_; clear hK
      obtain ⟨r16, hc17, hj14⟩ := bind_some hj14
      refine wps_call [(.take, .tmp 17)] rfl rfl ent101 (spec_l11HasB_ok _ hc17) fun K hK => ?_; simp [hN']; refine hK _ ?_; clear hK
      refine wps_cons rfl fun K hK => ?_; simp [hN']; refine hK _ ?_; clear hK
      rcases ite_or hj14 with ⟨hb18, hj14⟩ | ⟨hb19, hj14⟩
      · have hb18s := hb18
        try simp at hb18s
        iterate 3 (refine wps_cons rfl fun K hK => ?_; simp [hN', hb18, hb18s]; refine hK _ ?_; clear hK)
        obtain ⟨r20, hc21, hj14⟩ := bind_some hj14
        refine wps_call [(.take, .tmp 20), (.take, .tmp 22)] rfl rfl ent110 (spec_l11Place_ok _ _ hc21) fun K hK => ?_; simp [hN', hb18, hb18s]; refine hK _ ?_; clear hK
        iterate 3 (refine wps_cons rfl fun K hK => ?_; simp [hN', hb18, hb18s]; refine hK _ ?_; clear hK)
        rcases ite_or hj14 with ⟨hb22, hj14⟩ | ⟨hb23, hj14⟩
        · have hb22s := hb22
          try simp at hb22s
          iterate 9 (refine wps_off fun K hK => ?_; simp [hN', hb18, hb18s, hb22, hb22s]; refine hK _ ?_; clear hK)
          refine wps_cons rfl fun K hK => ?_; simp [hN', hb18, hb18s, hb22, hb22s]; refine hK _ ?_; clear hK
          refine wps_nil ?_
          cases hj14
          exact hK15 _ () [] trivial (by simp [hN', hb18, hb18s, hb22, hb22s])
        · have hb23s := hb23
          try simp at hb23s
          iterate 2 (refine wps_cons rfl fun K hK => ?_; simp [hN', hb18, hb18s, hb23, hb23s]; refine hK _ ?_; clear hK)
          obtain ⟨r24, hc25, hj14⟩ := bind_some hj14
          refine wps_call [(.take, .tmp 28)] rfl rfl ent101 (spec_l11HasB_ok _ hc25) fun K hK => ?_; simp [hN', hb18, hb18s, hb23, hb23s]; refine hK _ ?_; clear hK
          iterate 2 (refine wps_cons rfl fun K hK => ?_; simp [hN', hb18, hb18s, hb23, hb23s]; refine hK _ ?_; clear hK)
          rcases ite_or hj14 with ⟨hb26, hj14⟩ | ⟨hb27, hj14⟩
          · have hb26s := hb26
            try simp at hb26s
            iterate 5 (refine wps_cons rfl fun K hK => ?_; simp [hN', hb18, hb18s, hb23, hb23s, hb26, hb26s]; refine hK _ ?_; clear hK)
            refine wps_nil ?_
            cases hj14
            exact hK15 _ () [] trivial (by simp [hN', hb18, hb18s, hb23, hb23s, hb26, hb26s])
          · have hb27s := hb27
            try simp at hb27s
            iterate 3 (refine wps_off fun K hK => ?_; simp [hN', hb18, hb18s, hb23, hb23s, hb27, hb27s]; refine hK _ ?_; clear hK)
            iterate 2 (refine wps_cons rfl fun K hK => ?_; simp [hN', hb18, hb18s, hb23, hb23s, hb27, hb27s]; refine hK _ ?_; clear hK)
            refine wps_nil ?_
            cases hj14
            exact hK15 _ () [] trivial (by simp [hN', hb18, hb18s, hb23, hb23s, hb27, hb27s])
      · have hb19s := hb19
        try simp at hb19s
        iterate 5 (refine wps_off fun K hK => ?_; simp [hN', hb19, hb19s]; refine hK _ ?_; clear hK)
        iterate 4 (refine wps_cons rfl fun K hK => ?_; simp [hN', hb19, hb19s]; refine hK _ ?_; clear hK)
        obtain ⟨r28, hc29, hj14⟩ := bind_some hj14
        refine wps_call [(.take, .tmp 28)] rfl rfl ent101 (spec_l11HasB_ok _ hc29) fun K hK => ?_; simp [hN', hb19, hb19s]; refine hK _ ?_; clear hK
        iterate 2 (refine wps_cons rfl fun K hK => ?_; simp [hN', hb19, hb19s]; refine hK _ ?_; clear hK)
        rcases ite_or hj14 with ⟨hb30, hj14⟩ | ⟨hb31, hj14⟩
        · have hb30s := hb30
          try simp at hb30s
          iterate 5 (refine wps_cons rfl fun K hK => ?_; simp [hN', hb19, hb19s, hb30, hb30s]; refine hK _ ?_; clear hK)
          refine wps_nil ?_
          cases hj14
          exact hK15 _ () [] trivial (by simp [hN', hb19, hb19s, hb30, hb30s])
        · have hb31s := hb31
          try simp at hb31s
          iterate 3 (refine wps_off fun K hK => ?_; simp [hN', hb19, hb19s, hb31, hb31s]; refine hK _ ?_; clear hK)
          iterate 2 (refine wps_cons rfl fun K hK => ?_; simp [hN', hb19, hb19s, hb31, hb31s]; refine hK _ ?_; clear hK)
          refine wps_nil ?_
          cases hj14
          exact hK15 _ () [] trivial (by simp [hN', hb19, hb19s, hb31, hb31s])
    rcases ite_or h with ⟨hb33, h⟩ | ⟨hb34, h⟩
    · refine SWp.condT' (b := v32) (by simp) hb33 ?_
      refine SWp.seqR rfl (hPB _ rfl) fun K hK => ?_
      refine wps_cons rfl fun K hK => ?_; simp [hN']; refine hK _ ?_; clear hK
      refine wps_nil (hK _ ?_); clear hK
      cases h
      refine SWp.ret ?_
      simp [thenS, inBlockS, res83]
    · refine SWp.condF' (b := v32) (by simp) hb34 ?_
      refine SWp.skip ?_
      show SWp E C _ _ _
      refine SWp.seq ?_
      obtain ⟨v53, hj35, h⟩ := bind_some h
      refine SWp.seqRC rfl (hPB _ rfl) [2, 3, 57] [2, 3] (fun _ : Unit => ⟨[(2, .ref (.box 2) 0 []), (3, .ref (.box 3) 0 []), (57, .t (vb v53))], [(2, [vs c1.Name, vi c1.Params, .sl false 1 (List.map vi c1.Locals), .sl false 7 (List.map (GIns.enc false) c1.Words)]), (3, [vi x2.Op, vi x2.A, vi x2.B, vi x2.C, vi x2.Num, vs x2.Name, .sl false 1 (List.map vi x2.Args)])]⟩) (fun _ => True) (fun _ _ => ?_) fun K36 hK36 => ?_
      rotate_left
      · refine wps_cons rfl fun K hK => ?_; simp [hN']; refine hK _ ?_; clear hK
        refine wps_cons rfl fun K hK => ?_; simp [hN']; refine hK _ ?_; clear hK
        obtain ⟨r37, hc38, hj35⟩ := bind_some hj35
        refine wps_call [(.take, .tmp 38)] rfl rfl ent102 (spec_l11HasC_ok _ hc38) fun K hK => ?_; simp [hN']; refine hK _ ?_; clear hK
        refine wps_cons rfl fun K hK => ?_; simp [hN']; refine hK _ ?_; clear hK
        rcases ite_or hj35 with ⟨hb39, hj35⟩ | ⟨hb40, hj35⟩
        · have hb39s := hb39
          try simp at hb39s
          iterate 3 (refine wps_cons rfl fun K hK => ?_; simp [hN', hb39, hb39s]; refine hK _ ?_; clear hK)
          obtain ⟨r41, hc42, hj35⟩ := bind_some hj35
          refine wps_call [(.take, .tmp 41), (.take, .tmp 43)] rfl rfl ent110 (spec_l11Place_ok _ _ hc42) fun K hK => ?_; simp [hN', hb39, hb39s]; refine hK _ ?_; clear hK
          iterate 3 (refine wps_cons rfl fun K hK => ?_; simp [hN', hb39, hb39s]; refine hK _ ?_; clear hK)
          rcases ite_or hj35 with ⟨hb43, hj35⟩ | ⟨hb44, hj35⟩
          · have hb43s := hb43
            try simp at hb43s
            iterate 9 (refine wps_off fun K hK => ?_; simp [hN', hb39, hb39s, hb43, hb43s]; refine hK _ ?_; clear hK)
            refine wps_cons rfl fun K hK => ?_; simp [hN', hb39, hb39s, hb43, hb43s]; refine hK _ ?_; clear hK
            refine wps_nil ?_
            cases hj35
            exact hK36 _ () [] trivial (by simp [hN', hb39, hb39s, hb43, hb43s])
          · have hb44s := hb44
            try simp at hb44s
            iterate 2 (refine wps_cons rfl fun K hK => ?_; simp [hN', hb39, hb39s, hb44, hb44s]; refine hK _ ?_; clear hK)
            obtain ⟨r45, hc46, hj35⟩ := bind_some hj35
            refine wps_call [(.take, .tmp 49)] rfl rfl ent102 (spec_l11HasC_ok _ hc46) fun K hK => ?_; simp [hN', hb39, hb39s, hb44, hb44s]; refine hK _ ?_; clear hK
            iterate 2 (refine wps_cons rfl fun K hK => ?_; simp [hN', hb39, hb39s, hb44, hb44s]; refine hK _ ?_; clear hK)
            rcases ite_or hj35 with ⟨hb47, hj35⟩ | ⟨hb48, hj35⟩
            · have hb47s := hb47
              try simp at hb47s
              iterate 5 (refine wps_cons rfl fun K hK => ?_; simp [hN', hb39, hb39s, hb44, hb44s, hb47, hb47s]; refine hK _ ?_; clear hK)
              refine wps_nil ?_
              cases hj35
              exact hK36 _ () [] trivial (by simp [hN', hb39, hb39s, hb44, hb44s, hb47, hb47s])
            · have hb48s := hb48
              try simp at hb48s
              iterate 3 (refine wps_off fun K hK => ?_; simp [hN', hb39, hb39s, hb44, hb44s, hb48, hb48s]; refine hK _ ?_; clear hK)
              iterate 2 (refine wps_cons rfl fun K hK => ?_; simp [hN', hb39, hb39s, hb44, hb44s, hb48, hb48s]; refine hK _ ?_; clear hK)
              refine wps_nil ?_
              cases hj35
              exact hK36 _ () [] trivial (by simp [hN', hb39, hb39s, hb44, hb44s, hb48, hb48s])
        · have hb40s := hb40
          try simp at hb40s
          iterate 5 (refine wps_off fun K hK => ?_; simp [hN', hb40, hb40s]; refine hK _ ?_; clear hK)
          iterate 4 (refine wps_cons rfl fun K hK => ?_; simp [hN', hb40, hb40s]; refine hK _ ?_; clear hK)
          obtain ⟨r49, hc50, hj35⟩ := bind_some hj35
          refine wps_call [(.take, .tmp 49)] rfl rfl ent102 (spec_l11HasC_ok _ hc50) fun K hK => ?_; simp [hN', hb40, hb40s]; refine hK _ ?_; clear hK
          iterate 2 (refine wps_cons rfl fun K hK => ?_; simp [hN', hb40, hb40s]; refine hK _ ?_; clear hK)
          rcases ite_or hj35 with ⟨hb51, hj35⟩ | ⟨hb52, hj35⟩
          · have hb51s := hb51
            try simp at hb51s
            iterate 5 (refine wps_cons rfl fun K hK => ?_; simp [hN', hb40, hb40s, hb51, hb51s]; refine hK _ ?_; clear hK)
            refine wps_nil ?_
            cases hj35
            exact hK36 _ () [] trivial (by simp [hN', hb40, hb40s, hb51, hb51s])
          · have hb52s := hb52
            try simp at hb52s
            iterate 3 (refine wps_off fun K hK => ?_; simp [hN', hb40, hb40s, hb52, hb52s]; refine hK _ ?_; clear hK)
            iterate 2 (refine wps_cons rfl fun K hK => ?_; simp [hN', hb40, hb40s, hb52, hb52s]; refine hK _ ?_; clear hK)
            refine wps_nil ?_
            cases hj35
            exact hK36 _ () [] trivial (by simp [hN', hb40, hb40s, hb52, hb52s])
      rcases ite_or h with ⟨hb54, h⟩ | ⟨hb55, h⟩
      · refine SWp.condT' (b := v53) (by simp) hb54 ?_
        refine SWp.seqR rfl (hPB _ rfl) fun K hK => ?_
        refine wps_cons rfl fun K hK => ?_; simp [hN']; refine hK _ ?_; clear hK
        refine wps_nil (hK _ ?_); clear hK
        cases h
        refine SWp.ret ?_
        simp [thenS, inBlockS, res83]
      · refine SWp.condF' (b := v53) (by simp) hb55 ?_
        refine SWp.skip ?_
        show SWp E C _ _ _
        obtain ⟨j58, hj56, h⟩ := bind_some h
        refine SWp.seqC [2, 3] [2, 3] (fun v : Unit => ⟨[(2, .ref (.box 2) 0 []), (3, .ref (.box 3) 0 [])], [(2, [vs c1.Name, vi c1.Params, .sl false 1 (List.map vi c1.Locals), .sl false 7 (List.map (GIns.enc false) c1.Words)]), (3, [vi x2.Op, vi x2.A, vi x2.B, vi x2.C, vi x2.Num, vs x2.Name, .sl false 1 (List.map vi x2.Args)])]⟩) (fun v => j58 = Sum.inl v) (fun v hv => ?_) fun K57 hK57 => ?_
        rotate_left
        · refine SWp.seqR rfl (hPB _ rfl) fun K hK => ?_
          iterate 2 (refine wps_cons rfl fun K hK => ?_; simp [hN']; refine hK _ ?_; clear hK)
          refine wps_nil (hK _ ?_); clear hK
          refine SWp.block ?_
          refine SWp.seqR rfl (hPB _ rfl) fun K hK => ?_
          iterate 2 (refine wps_cons rfl fun K hK => ?_; simp [hN']; refine hK _ ?_; clear hK)
          refine wps_nil (hK _ ?_); clear hK
          rcases ite_or hj56 with ⟨hb59, hj56⟩ | ⟨hb60, hj56⟩
          · refine SWp.condT' (b := x2.Op == 1) (by simp) hb59 ?_
            refine SWp.seqR rfl (hPB _ rfl) fun K hK => ?_
            iterate 2 (refine wps_cons rfl fun K hK => ?_; simp [hN']; refine hK _ ?_; clear hK)
            obtain ⟨r61, hc62, hj56⟩ := bind_some hj56
            refine wps_call [(.take, .tmp 66), (.take, .const (.int .i64 0)), (.take, .const (.int .i64 1000000000))] rfl rfl ent82 (spec_l01In_ok _ _ _ hc62) fun K hK => ?_; simp [hN']; refine hK _ ?_; clear hK
            refine wps_cons rfl fun K hK => ?_; simp [hN']; refine hK _ ?_; clear hK
            refine wps_nil (hK _ ?_); clear hK
            rcases ite_or hj56 with ⟨hb63, hj56⟩ | ⟨hb64, hj56⟩
            · refine SWp.condT' (b := !r61) (by simp) hb63 ?_
              refine SWp.seqR rfl (hPB _ rfl) fun K hK => ?_
              refine wps_cons rfl fun K hK => ?_; simp [hN']; refine hK _ ?_; clear hK
              refine wps_nil (hK _ ?_); clear hK
              cases hj56
              try dsimp only at h
              cases h
              refine SWp.ret ?_
              simp [thenS, inBlockS, res83]
            · refine SWp.condF' (b := !r61) (by simp) hb64 ?_
              refine SWp.skip ?_
              cases hj56
              exact hK57 _ _ [] rfl (by simp [hN'])
          · refine SWp.condF' (b := x2.Op == 1) (by simp) hb60 ?_
            obtain ⟨v70, hj65, hj56⟩ := bind_some hj56
            refine SWp.seqC [2, 3, 69] [2, 3] (fun _ : Unit => ⟨[(2, .ref (.box 2) 0 []), (3, .ref (.box 3) 0 []), (69, .t (vb v70))], [(2, [vs c1.Name, vi c1.Params, .sl false 1 (List.map vi c1.Locals), .sl false 7 (List.map (GIns.enc false) c1.Words)]), (3, [vi x2.Op, vi x2.A, vi x2.B, vi x2.C, vi x2.Num, vs x2.Name, .sl false 1 (List.map vi x2.Args)])]⟩) (fun _ => True) (fun _ _ => ?_) fun K66 hK66 => ?_
            rotate_left
            · refine SWp.seqR rfl (hPB _ rfl) fun K hK => ?_
              iterate 2 (refine wps_cons rfl fun K hK => ?_; simp [hN']; refine hK _ ?_; clear hK)
              refine wps_nil (hK _ ?_); clear hK
              rcases ite_or hj65 with ⟨hb68, hj65⟩ | ⟨hb69, hj65⟩
              · refine SWp.condT' (b := x2.Op == 18) (by simp) hb68 ?_
                refine SWp.skip ?_
                cases hj65
                exact hK66 _ () [] trivial (by simp [hN'])
              · refine SWp.condF' (b := x2.Op == 18) (by simp) hb69 ?_
                refine SWp.reg rfl (hPB _ rfl) fun K hK => ?_
                iterate 2 (refine wps_cons rfl fun K hK => ?_; simp [hN']; refine hK _ ?_; clear hK)
                refine wps_nil (hK _ ?_); clear hK
                cases hj65
                exact hK66 _ () [] trivial (by simp [hN'])
            rcases ite_or hj56 with ⟨hb71, hj56⟩ | ⟨hb72, hj56⟩
            · refine SWp.condT' (b := v70) (by simp) hb71 ?_
              refine SWp.seqR rfl (hPB _ rfl) fun K hK => ?_
              iterate 6 (refine wps_cons rfl fun K hK => ?_; simp [hN']; refine hK _ ?_; clear hK)
              obtain ⟨r73, hc74, hj56⟩ := bind_some hj56
              refine wps_call [(.take, .tmp 73), (.take, .const (.int .i64 0)), (.take, .tmp 77)] rfl rfl ent82 (spec_l01In_ok _ _ _ hc74) fun K hK => ?_; simp [hN']; refine hK _ ?_; clear hK
              refine wps_cons rfl fun K hK => ?_; simp [hN']; refine hK _ ?_; clear hK
              refine wps_nil (hK _ ?_); clear hK
              rcases ite_or hj56 with ⟨hb75, hj56⟩ | ⟨hb76, hj56⟩
              · refine SWp.condT' (b := !r73) (by simp) hb75 ?_
                refine SWp.seqR rfl (hPB _ rfl) fun K hK => ?_
                refine wps_cons rfl fun K hK => ?_; simp [hN']; refine hK _ ?_; clear hK
                refine wps_nil (hK _ ?_); clear hK
                cases hj56
                try dsimp only at h
                cases h
                refine SWp.ret ?_
                simp [thenS, inBlockS, res83]
              · refine SWp.condF' (b := !r73) (by simp) hb76 ?_
                refine SWp.skip ?_
                cases hj56
                exact hK57 _ _ [] rfl (by simp [hN'])
            · refine SWp.condF' (b := v70) (by simp) hb72 ?_
              refine SWp.seqR rfl (hPB _ rfl) fun K hK => ?_
              iterate 3 (refine wps_cons rfl fun K hK => ?_; simp [hN']; refine hK _ ?_; clear hK)
              refine wps_nil (hK _ ?_); clear hK
              rcases ite_or hj56 with ⟨hb77, hj56⟩ | ⟨hb78, hj56⟩
              · refine SWp.condT' (b := x2.Num != 0) (by simp) hb77 ?_
                refine SWp.seqR rfl (hPB _ rfl) fun K hK => ?_
                refine wps_cons rfl fun K hK => ?_; simp [hN']; refine hK _ ?_; clear hK
                refine wps_nil (hK _ ?_); clear hK
                cases hj56
                try dsimp only at h
                cases h
                refine SWp.ret ?_
                simp [thenS, inBlockS, res83]
              · refine SWp.condF' (b := x2.Num != 0) (by simp) hb78 ?_
                refine SWp.skip ?_
                cases hj56
                exact hK57 _ _ [] rfl (by simp [hN'])
        subst hv
        obtain ⟨⟩ := v
        try dsimp only at h ⊢
        refine SWp.seq ?_
        refine SWp.seqR rfl (hPB _ rfl) fun K hK => ?_
        iterate 3 (refine wps_cons rfl fun K hK => ?_; simp [hN']; refine hK _ ?_; clear hK)
        refine wps_nil (hK _ ?_); clear hK
        rcases ite_or h with ⟨hb79, h⟩ | ⟨hb80, h⟩
        · refine SWp.condT' (b := x2.Op != 13) (by simp) hb79 ?_
          obtain ⟨v85, hj81, h⟩ := bind_some h
          refine SWp.seqRC rfl (hPB _ rfl) [4] [] (fun _ : Unit => ⟨[(4, .t (vb v85))], []⟩) (fun _ => True) (fun _ _ => ?_) fun K82 hK82 => ?_
          rotate_left
          · refine wps_cons rfl fun K hK => ?_; simp [hN']; refine hK _ ?_; clear hK
            iterate 3 (refine wps_cons rfl fun K hK => ?_; simp [hN']; refine hK _ ?_; clear hK)
            rcases ite_or hj81 with ⟨hb83, hj81⟩ | ⟨hb84, hj81⟩
            · have hb83s := hb83
              try simp at hb83s
              iterate 6 (refine wps_cons rfl fun K hK => ?_; simp [hN', hb83, hb83s]; refine hK _ ?_; clear hK)
              refine wps_nil ?_
              cases hj81
              exact hK82 _ () [] trivial (by simp [hN', hb83, hb83s])
            · have hb84s := hb84
              try simp at hb84s
              iterate 4 (refine wps_off fun K hK => ?_; simp [hN', hb84, hb84s]; refine hK _ ?_; clear hK)
              iterate 2 (refine wps_cons rfl fun K hK => ?_; simp [hN', hb84, hb84s]; refine hK _ ?_; clear hK)
              refine wps_nil ?_
              cases hj81
              exact hK82 _ () [] trivial (by simp [hN', hb84, hb84s])
          cases h
          refine SWp.ret ?_
          simp [thenS, inBlockS, res83]
        · refine SWp.condF' (b := x2.Op != 13) (by simp) hb80 ?_
          refine SWp.skip ?_
          show SWp E C _ _ _
          obtain ⟨j88, hj86, h⟩ := bind_some h
          refine SWp.seqC [3] [3] (fun v : Unit => ⟨[(3, .ref (.box 3) 0 [])], [(3, [vi x2.Op, vi x2.A, vi x2.B, vi x2.C, vi x2.Num, vs x2.Name, .sl false 1 (List.map vi x2.Args)])]⟩) (fun v => j88 = Sum.inl v) (fun v hv => ?_) fun K87 hK87 => ?_
          rotate_left
          · refine SWp.seqR rfl (hPB _ rfl) fun K hK => ?_
            refine wps_cons rfl fun K hK => ?_; simp [hN']; refine hK _ ?_; clear hK
            refine wps_nil (hK _ ?_); clear hK
            refine SWp.block ?_
            refine SWp.loopO [] [2, 3, 5] [2, 3] (fun v : Int => ⟨[(2, .ref (.box 2) 0 []), (3, .ref (.box 3) 0 []), (5, .t (vi v))], [(2, [vs c1.Name, vi c1.Params, .sl false 1 (List.map vi c1.Locals), .sl false 7 (List.map (GIns.enc false) c1.Words)]), (3, [vi x2.Op, vi x2.A, vi x2.B, vi x2.C, vi x2.Num, vs x2.Name, .sl false 1 (List.map vi x2.Args)])]⟩) (spec_WordOk_l1 c1 x2) _ 0 hj86 (by simp [hN']) ?_
            intro g s92 h90 ho91
            obtain ⟨i89, hg⟩ : ∃ y, y = g := ⟨_, rfl⟩
            subst hg
            simp only [spec_WordOk_l1] at h90
            try dsimp only
            refine SWp.seq ?_
            refine SWp.seqR rfl (hPB _ rfl) fun K hK => ?_
            iterate 5 (refine wps_cons rfl fun K hK => ?_; simp [hN']; refine hK _ ?_; clear hK)
            refine wps_nil (hK _ ?_); clear hK
            rcases ite_or h90 with ⟨hb93, h90⟩ | ⟨hb94, h90⟩
            · refine SWp.condT' (b := decide (i89 < (x2.Args.length : Int))) (by simp) hb93 ?_
              refine SWp.skip ?_
              show SWp E C _ _ _
              refine SWp.seq ?_
              refine SWp.block ?_
              refine SWp.seq ?_
              obtain ⟨e96, he96, h90⟩ := bind_some h90
              obtain ⟨he96a, he96b, he96c, he96d⟩ := getI_some he96
              refine SWp.drawT rfl (hPB _ rfl) [(99, .t (GCode.enc false c1)), (100, .ref (.box 3) 6 []), (101, .t (.sl false 1 (List.map vi x2.Args))), (102, .t (vi i89)), (103, .rop [vi e96] 0), (104, .t (vi e96))] [[], [], [1], [], [1, 2, 3], [1, 2, 3, 4], [0, 1, 2, 3, 4, 5], [0, 1, 2, 3, 4, 5, 6]] (by simp) (by simp) (by simp [look]) rfl rfl rfl ?_ fun K hK => ?_
              · refine ⟨?_, ?_, ?_, ?_, ?_, ?_, trivial⟩
                all_goals (intro τ hbx hb hd hf K hK; try simp [vsAt] at hd; simp [vsAt] at hf; first | (refine wps_cons rfl fun K' hK' => ?_; simp [hN', hbx, hb, hd, hf, he96a, he96b, he96c, he96d]; exact hK' _ (wps_nil (hK _ (by simp [vsAt, hbx, he96a, he96b, he96c, he96d])))))
              obtain ⟨r97, hc98, h90⟩ := bind_some h90
              refine wps_call [(.take, .tmp 99), (.take, .tmp 104)] rfl rfl ent110 (spec_l11Place_ok _ _ hc98) fun K hK => ?_; simp [hN', he96a, he96b, he96c, he96d]; refine hK _ ?_; clear hK
              refine wps_cons rfl fun K hK => ?_; simp [hN', he96a, he96b, he96c, he96d]; refine hK _ ?_; clear hK
              refine wps_nil (hK _ ?_); clear hK
              show SWp E C _ _ _
              rcases ite_or h90 with ⟨hb99, h90⟩ | ⟨hb100, h90⟩
              · refine SWp.condT' (b := !r97) (by simp) hb99 ?_
                refine SWp.seqR rfl (hPB _ rfl) fun K hK => ?_
                refine wps_cons rfl fun K hK => ?_; simp [hN']; refine hK _ ?_; clear hK
                refine wps_nil (hK _ ?_); clear hK
                have h101 := congrArg some (ho91 _ (Option.some.inj h90).symm)
                cases h101
                try dsimp only at h
                cases h
                refine SWp.ret ?_
                simp [thenS, inBlockS, res83]
              · refine SWp.condF' (b := !r97) (by simp) hb100 ?_
                refine SWp.skip ?_
                show SWp E C _ _ _
                refine SWp.reg rfl (hPB _ rfl) fun K hK => ?_
                iterate 3 (refine wps_cons rfl fun K hK => ?_; simp [hN']; refine hK _ ?_; clear hK)
                refine wps_nil (hK _ ?_); clear hK
                cases h90
                exact ⟨_, [], rfl, by simp [hN']⟩
            · refine SWp.condF' (b := decide (i89 < (x2.Args.length : Int))) (by simp) hb94 ?_
              refine SWp.exit ?_
              have h102 := congrArg some (ho91 _ (Option.some.inj h90).symm)
              cases h102
              exact hK87 _ _ [] rfl (by simp [hN'])
          subst hv
          obtain ⟨⟩ := v
          try dsimp only at h ⊢
          obtain ⟨v109, hj103, h⟩ := bind_some h
          refine SWp.seqRC rfl (hPB _ rfl) [4] [] (fun _ : Unit => ⟨[(4, .t (vb v109))], []⟩) (fun _ => True) (fun _ _ => ?_) fun K104 hK104 => ?_
          rotate_left
          · refine wps_cons rfl fun K hK => ?_; simp [hN']; refine hK _ ?_; clear hK
            refine wps_cons rfl fun K hK => ?_; simp [hN']; refine hK _ ?_; clear hK
            obtain ⟨r105, hc106, hj103⟩ := bind_some hj103
            refine wps_call [(.take, .tmp 108)] rfl rfl ent81 (spec_NameOk_ok _ hc106) fun K hK => ?_; simp [hN']; refine hK _ ?_; clear hK
            refine wps_cons rfl fun K hK => ?_; simp [hN']; refine hK _ ?_; clear hK
            rcases ite_or hj103 with ⟨hb107, hj103⟩ | ⟨hb108, hj103⟩
            · have hb107s := hb107
              try simp at hb107s
              iterate 6 (refine wps_cons rfl fun K hK => ?_; simp [hN', hb107, hb107s]; refine hK _ ?_; clear hK)
              refine wps_nil ?_
              cases hj103
              exact hK104 _ () [] trivial (by simp [hN', hb107, hb107s])
            · have hb108s := hb108
              try simp at hb108s
              iterate 4 (refine wps_off fun K hK => ?_; simp [hN', hb108, hb108s]; refine hK _ ?_; clear hK)
              iterate 2 (refine wps_cons rfl fun K hK => ?_; simp [hN', hb108, hb108s]; refine hK _ ?_; clear hK)
              refine wps_nil ?_
              cases hj103
              exact hK104 _ () [] trivial (by simp [hN', hb108, hb108s])
          cases h
          refine SWp.ret ?_
          simp [thenS, inBlockS, res83]
end Go.Proofs.T
set_option linter.unusedVariables false
set_option linter.unusedSimpArgs false
set_option maxHeartbeats 1000000
namespace Go.Proofs.T
open Go.OM
theorem res46 : Tryd.f46.results.toList = [.tmp 2] := rfl
theorem ent46 : Enters E.P 46 := enters_of Tryd.func46 (by simp [Tryd.f46]) rfl
theorem spec_CodeOk_ok (c1 : GCode) {r0 : Bool} (h : spec_CodeOk c1 = some r0) : Ok E 46 [.val (GCode.enc false c1)] [vb r0] [] := by
  refine ok_of_body (fn := Tryd.f46) Tryd.func46 rfl (by simp [Tryd.f46]) fun C hN hP => ?_
  have hPB : ∀ l, pinK [] l = true → pinB C.pin l = true := pinB_of (by rw [hP]; rfl)
  have hN' : C.N = 72 := hN
  clear hN
  unfold spec_CodeOk at h
  refine SWp.seqR rfl (hPB _ rfl) fun K hK => ?_
  iterate 2 (refine wps_cons rfl fun K hK => ?_; simp [hN']; refine hK _ ?_; clear hK)
  refine wps_nil (hK _ ?_); clear hK
  refine SWp.seq ?_
  obtain ⟨v19, hj2, h⟩ := bind_some h
  refine SWp.seqRC rfl (hPB _ rfl) [1, 42] [1] (fun _ : Unit => ⟨[(1, .ref (.box 1) 0 []), (42, .t (vb v19))], [(1, [vs c1.Name, vi c1.Params, .sl false 1 (List.map vi c1.Locals), .sl false 7 (List.map (GIns.enc false) c1.Words)])]⟩) (fun _ => True) (fun _ _ => ?_) fun K3 hK3 => ?_
  rotate_left
  · refine wps_cons rfl fun K hK => ?_; simp [hN']; refine hK _ ?_; clear hK
    refine wps_cons rfl fun K hK => ?_; simp [hN']; refine hK _ ?_; clear hK
    obtain ⟨r4, hc5, hj2⟩ := bind_some hj2
    refine wps_call [(.take, .tmp 6)] rfl rfl ent81 (spec_NameOk_ok _ hc5) fun K hK => ?_; simp [hN']; refine hK _ ?_; clear hK
    iterate 2 (refine wps_cons rfl fun K hK => ?_; simp [hN']; refine hK _ ?_; clear hK)
    rcases ite_or hj2 with ⟨hb6, hj2⟩ | ⟨hb7, hj2⟩
    · have hb6s := hb6
      try simp at hb6s
      iterate 4 (refine wps_off fun K hK => ?_; simp [hN', hb6, hb6s]; refine hK _ ?_; clear hK)
      iterate 2 (refine wps_cons rfl fun K hK => ?_; simp [hN', hb6, hb6s]; refine hK _ ?_; clear hK)
      iterate 7 (refine wps_off fun K hK => ?_; simp [hN', hb6, hb6s]; refine hK _ ?_; clear hK)
      iterate 2 (refine wps_cons rfl fun K hK => ?_; simp [hN', hb6, hb6s]; refine hK _ ?_; clear hK)
      iterate 5 (refine wps_off fun K hK => ?_; simp [hN', hb6, hb6s]; refine hK _ ?_; clear hK)
      iterate 2 (refine wps_cons rfl fun K hK => ?_; simp [hN', hb6, hb6s]; refine hK _ ?_; clear hK)
      iterate 10 (refine wps_off fun K hK => ?_; simp [hN', hb6, hb6s]; refine hK _ ?_; clear hK)
      refine wps_cons rfl fun K hK => ?_; simp [hN', hb6, hb6s]; refine hK _ ?_; clear hK
      refine wps_nil ?_
      cases hj2
      exact hK3 _ () [] trivial (by simp [hN', hb6, hb6s])
    · have hb7s := hb7
      try simp at hb7s
      iterate 6 (refine wps_cons rfl fun K hK => ?_; simp [hN', hb7, hb7s]; refine hK _ ?_; clear hK)
      rcases ite_or hj2 with ⟨hb8, hj2⟩ | ⟨hb9, hj2⟩
      · have hb8s := hb8
        try simp at hb8s
        iterate 7 (refine wps_off fun K hK => ?_; simp [hN', hb7, hb7s, hb8, hb8s]; refine hK _ ?_; clear hK)
        iterate 2 (refine wps_cons rfl fun K hK => ?_; simp [hN', hb7, hb7s, hb8, hb8s]; refine hK _ ?_; clear hK)
        iterate 5 (refine wps_off fun K hK => ?_; simp [hN', hb7, hb7s, hb8, hb8s]; refine hK _ ?_; clear hK)
        iterate 2 (refine wps_cons rfl fun K hK => ?_; simp [hN', hb7, hb7s, hb8, hb8s]; refine hK _ ?_; clear hK)
        iterate 10 (refine wps_off fun K hK => ?_; simp [hN', hb7, hb7s, hb8, hb8s]; refine hK _ ?_; clear hK)
        refine wps_cons rfl fun K hK => ?_; simp [hN', hb7, hb7s, hb8, hb8s]; refine hK _ ?_; clear hK
        refine wps_nil ?_
        cases hj2
        exact hK3 _ () [] trivial (by simp [hN', hb7, hb7s, hb8, hb8s])
      · have hb9s := hb9
        try simp at hb9s
        iterate 5 (refine wps_cons rfl fun K hK => ?_; simp [hN', hb7, hb7s, hb9, hb9s]; refine hK _ ?_; clear hK)
        obtain ⟨r10, hc11, hj2⟩ := bind_some hj2
        refine wps_call [(.take, .tmp 17), (.take, .const (.int .i64 0)), (.take, .tmp 20)] rfl rfl ent82 (spec_l01In_ok _ _ _ hc11) fun K hK => ?_; simp [hN', hb7, hb7s, hb9, hb9s]; refine hK _ ?_; clear hK
        iterate 3 (refine wps_cons rfl fun K hK => ?_; simp [hN', hb7, hb7s, hb9, hb9s]; refine hK _ ?_; clear hK)
        rcases ite_or hj2 with ⟨hb12, hj2⟩ | ⟨hb13, hj2⟩
        · have hb12s := hb12
          try simp at hb12s
          iterate 5 (refine wps_off fun K hK => ?_; simp [hN', hb7, hb7s, hb9, hb9s, hb12, hb12s]; refine hK _ ?_; clear hK)
          iterate 2 (refine wps_cons rfl fun K hK => ?_; simp [hN', hb7, hb7s, hb9, hb9s, hb12, hb12s]; refine hK _ ?_; clear hK)
          iterate 10 (refine wps_off fun K hK => ?_; simp [hN', hb7, hb7s, hb9, hb9s, hb12, hb12s]; refine hK _ ?_; clear hK)
          refine wps_cons rfl fun K hK => ?_; simp [hN', hb7, hb7s, hb9, hb9s, hb12, hb12s]; refine hK _ ?_; clear hK
          refine wps_nil ?_
          cases hj2
          exact hK3 _ () [] trivial (by simp [hN', hb7, hb7s, hb9, hb9s, hb12, hb12s])
        · have hb13s := hb13
          try simp at hb13s
          iterate 3 (refine wps_cons rfl fun K hK => ?_; simp [hN', hb7, hb7s, hb9, hb9s, hb13, hb13s]; refine hK _ ?_; clear hK)
          obtain ⟨r14, hc15, hj2⟩ := bind_some hj2
          refine wps_call [(.take, .tmp 27), (.take, .const (.int .i64 1)), (.take, .const (.int .i64 400))] rfl rfl ent82 (spec_l01In_ok _ _ _ hc15) fun K hK => ?_; simp [hN', hb7, hb7s, hb9, hb9s, hb13, hb13s]; refine hK _ ?_; clear hK
          iterate 3 (refine wps_cons rfl fun K hK => ?_; simp [hN', hb7, hb7s, hb9, hb9s, hb13, hb13s]; refine hK _ ?_; clear hK)
          rcases ite_or hj2 with ⟨hb16, hj2⟩ | ⟨hb17, hj2⟩
          · have hb16s := hb16
            try simp at hb16s
            iterate 10 (refine wps_off fun K hK => ?_; simp [hN', hb7, hb7s, hb9, hb9s, hb13, hb13s, hb16, hb16s]; refine hK _ ?_; clear hK)
            refine wps_cons rfl fun K hK => ?_; simp [hN', hb7, hb7s, hb9, hb9s, hb13, hb13s, hb16, hb16s]; refine hK _ ?_; clear hK
            refine wps_nil ?_
            cases hj2
            exact hK3 _ () [] trivial (by simp [hN', hb7, hb7s, hb9, hb9s, hb13, hb13s, hb16, hb16s])
          · have hb17s := hb17
            try simp at hb17s
            iterate 6 (refine wps_cons rfl fun K hK => ?_; simp [hN', hb7, hb7s, hb9, hb9s, hb13, hb13s, hb17, hb17s]; refine hK _ ?_; clear hK)
            obtain ⟨e18, he18, hj2⟩ := bind_some hj2
            obtain ⟨he18a, he18b, he18c, he18d⟩ := getI_some he18
            have he18j := he18b; try simp at he18j
            try simp only [Int.toNat_natCast] at he18c he18d
            iterate 5 (refine wps_cons rfl fun K hK => ?_; simp [hN', hb7, hb7s, hb9, hb9s, hb13, hb13s, hb17, hb17s, he18a, he18b, he18c, he18d, he18j]; refine hK _ ?_; clear hK)
            refine wps_nil ?_
            cases hj2
            exact hK3 _ () [] trivial (by simp [hN', hb7, hb7s, hb9, hb9s, hb13, hb13s, hb17, hb17s, he18a, he18b, he18c, he18d, he18j])
  rcases ite_or h with ⟨hb20, h⟩ | ⟨hb21, h⟩
  · refine SWp.condT' (b := v19) (by simp) hb20 ?_
    refine SWp.seqR rfl (hPB _ rfl) fun K hK => ?_
    refine wps_cons rfl fun K hK => ?_; simp [hN']; refine hK _ ?_; clear hK
    refine wps_nil (hK _ ?_); clear hK
    cases h
    refine SWp.ret ?_
    simp [thenS, inBlockS, res46]
  · refine SWp.condF' (b := v19) (by simp) hb21 ?_
    refine SWp.skip ?_
    show SWp E C _ _ _
    obtain ⟨j24, hj22, h⟩ := bind_some h
    refine SWp.seqC [1] [1] (fun v : Unit => ⟨[(1, .ref (.box 1) 0 [])], [(1, [vs c1.Name, vi c1.Params, .sl false 1 (List.map vi c1.Locals), .sl false 7 (List.map (GIns.enc false) c1.Words)])]⟩) (fun v => j24 = Sum.inl v) (fun v hv => ?_) fun K23 hK23 => ?_
    rotate_left
    · refine SWp.seqR rfl (hPB _ rfl) fun K hK => ?_
      refine wps_cons rfl fun K hK => ?_; simp [hN']; refine hK _ ?_; clear hK
      refine wps_nil (hK _ ?_); clear hK
      refine SWp.block ?_
      refine SWp.loopO [] [1, 3] [1] (fun v : Int => ⟨[(1, .ref (.box 1) 0 []), (3, .t (vi v))], [(1, [vs c1.Name, vi c1.Params, .sl false 1 (List.map vi c1.Locals), .sl false 7 (List.map (GIns.enc false) c1.Words)])]⟩) (spec_CodeOk_l1 c1) _ 0 hj22 (by simp [hN']) ?_
      intro g s28 h26 ho27
      obtain ⟨i25, hg⟩ : ∃ y, y = g := ⟨_, rfl⟩
      subst hg
      simp only [spec_CodeOk_l1] at h26
      try dsimp only
      refine SWp.seq ?_
      refine SWp.seqR rfl (hPB _ rfl) fun K hK => ?_
      iterate 5 (refine wps_cons rfl fun K hK => ?_; simp [hN']; refine hK _ ?_; clear hK)
      refine wps_nil (hK _ ?_); clear hK
      rcases ite_or h26 with ⟨hb29, h26⟩ | ⟨hb30, h26⟩
      · refine SWp.condT' (b := decide (i25 < (c1.Locals.length : Int))) (by simp) hb29 ?_
        refine SWp.skip ?_
        show SWp E C _ _ _
        refine SWp.seq ?_
        refine SWp.block ?_
        refine SWp.seqR rfl (hPB _ rfl) fun K hK => ?_
        iterate 3 (refine wps_cons rfl fun K hK => ?_; simp [hN']; refine hK _ ?_; clear hK)
        obtain ⟨e31, he31, h26⟩ := bind_some h26
        obtain ⟨he31a, he31b, he31c, he31d⟩ := getI_some he31
        iterate 2 (refine wps_cons rfl fun K hK => ?_; simp [hN', he31a, he31b, he31c, he31d]; refine hK _ ?_; clear hK)
        obtain ⟨r32, hc33, h26⟩ := bind_some h26
        refine wps_call [(.take, .tmp 54), (.take, .const (.int .i64 1)), (.take, .const (.int .i64 4))] rfl rfl ent82 (spec_l01In_ok _ _ _ hc33) fun K hK => ?_; simp [hN', he31a, he31b, he31c, he31d]; refine hK _ ?_; clear hK
        refine wps_cons rfl fun K hK => ?_; simp [hN', he31a, he31b, he31c, he31d]; refine hK _ ?_; clear hK
        refine wps_nil (hK _ ?_); clear hK
        rcases ite_or h26 with ⟨hb34, h26⟩ | ⟨hb35, h26⟩
        · refine SWp.condT' (b := !r32) (by simp) hb34 ?_
          refine SWp.seqR rfl (hPB _ rfl) fun K hK => ?_
          refine wps_cons rfl fun K hK => ?_; simp [hN']; refine hK _ ?_; clear hK
          refine wps_nil (hK _ ?_); clear hK
          have h36 := congrArg some (ho27 _ (Option.some.inj h26).symm)
          cases h36
          try dsimp only at h
          cases h
          refine SWp.ret ?_
          simp [thenS, inBlockS, res46]
        · refine SWp.condF' (b := !r32) (by simp) hb35 ?_
          refine SWp.skip ?_
          show SWp E C _ _ _
          refine SWp.reg rfl (hPB _ rfl) fun K hK => ?_
          iterate 3 (refine wps_cons rfl fun K hK => ?_; simp [hN']; refine hK _ ?_; clear hK)
          refine wps_nil (hK _ ?_); clear hK
          cases h26
          exact ⟨_, [], rfl, by simp [hN']⟩
      · refine SWp.condF' (b := decide (i25 < (c1.Locals.length : Int))) (by simp) hb30 ?_
        refine SWp.exit ?_
        have h37 := congrArg some (ho27 _ (Option.some.inj h26).symm)
        cases h37
        exact hK23 _ _ [] rfl (by simp [hN'])
    subst hv
    obtain ⟨⟩ := v
    try dsimp only at h ⊢
    obtain ⟨j40, hj38, h⟩ := bind_some h
    refine SWp.seqC [] [] (fun v : Unit => ⟨[], []⟩) (fun v => j40 = Sum.inl v) (fun v hv => ?_) fun K39 hK39 => ?_
    rotate_left
    · refine SWp.seqR rfl (hPB _ rfl) fun K hK => ?_
      refine wps_cons rfl fun K hK => ?_; simp [hN']; refine hK _ ?_; clear hK
      refine wps_nil (hK _ ?_); clear hK
      refine SWp.block ?_
      refine SWp.loopO [] [1, 4] [1] (fun v : Int => ⟨[(1, .ref (.box 1) 0 []), (4, .t (vi v))], [(1, [vs c1.Name, vi c1.Params, .sl false 1 (List.map vi c1.Locals), .sl false 7 (List.map (GIns.enc false) c1.Words)])]⟩) (spec_CodeOk_l2 c1) _ 0 hj38 (by simp [hN']) ?_
      intro g s44 h42 ho43
      obtain ⟨i41, hg⟩ : ∃ y, y = g := ⟨_, rfl⟩
      subst hg
      simp only [spec_CodeOk_l2] at h42
      try dsimp only
      refine SWp.seq ?_
      refine SWp.seqR rfl (hPB _ rfl) fun K hK => ?_
      iterate 5 (refine wps_cons rfl fun K hK => ?_; simp [hN']; refine hK _ ?_; clear hK)
      refine wps_nil (hK _ ?_); clear hK
      rcases ite_or h42 with ⟨hb45, h42⟩ | ⟨hb46, h42⟩
      · refine SWp.condT' (b := decide (i41 < (c1.Words.length : Int))) (by simp) hb45 ?_
        refine SWp.skip ?_
        show SWp E C _ _ _
        refine SWp.seq ?_
        refine SWp.block ?_
        refine SWp.seq ?_
        obtain ⟨e48, he48, h42⟩ := bind_some h42
        obtain ⟨he48a, he48b, he48c, he48d⟩ := getI_some he48
        refine SWp.drawT rfl (hPB _ rfl) [(64, .t (GCode.enc false c1)), (65, .ref (.box 1) 3 []), (66, .t (.sl false 7 (List.map (GIns.enc false) c1.Words))), (67, .t (vi i41)), (68, .rop [vi e48.Op, vi e48.A, vi e48.B, vi e48.C, vi e48.Num, vs e48.Name, .sl false 1 (List.map vi e48.Args)] 0), (69, .t (GIns.enc false e48))] [[], [], [1], [], [1, 2, 3], [1, 2, 3, 4], [0, 1, 2, 3, 4, 5], [0, 1, 2, 3, 4, 5, 6]] (by simp) (by simp) (by simp [look]) rfl rfl rfl ?_ fun K hK => ?_
        · refine ⟨?_, ?_, ?_, ?_, ?_, ?_, trivial⟩
          all_goals (intro τ hbx hb hd hf K hK; try simp [vsAt] at hd; simp [vsAt] at hf; first | (refine wps_cons rfl fun K' hK' => ?_; simp [hN', hbx, hb, hd, hf, he48a, he48b, he48c, he48d]; exact hK' _ (wps_nil (hK _ (by simp [vsAt, hbx, he48a, he48b, he48c, he48d])))))
        obtain ⟨r49, hc50, h42⟩ := bind_some h42
        refine wps_call [(.take, .tmp 64), (.take, .tmp 69)] rfl rfl ent83 (spec_WordOk_ok _ _ hc50) fun K hK => ?_; simp [hN', he48a, he48b, he48c, he48d]; refine hK _ ?_; clear hK
        refine wps_cons rfl fun K hK => ?_; simp [hN', he48a, he48b, he48c, he48d]; refine hK _ ?_; clear hK
        refine wps_nil (hK _ ?_); clear hK
        show SWp E C _ _ _
        rcases ite_or h42 with ⟨hb51, h42⟩ | ⟨hb52, h42⟩
        · refine SWp.condT' (b := !r49) (by simp) hb51 ?_
          refine SWp.seqR rfl (hPB _ rfl) fun K hK => ?_
          refine wps_cons rfl fun K hK => ?_; simp [hN']; refine hK _ ?_; clear hK
          refine wps_nil (hK _ ?_); clear hK
          have h53 := congrArg some (ho43 _ (Option.some.inj h42).symm)
          cases h53
          try dsimp only at h
          cases h
          refine SWp.ret ?_
          simp [thenS, inBlockS, res46]
        · refine SWp.condF' (b := !r49) (by simp) hb52 ?_
          refine SWp.skip ?_
          show SWp E C _ _ _
          refine SWp.reg rfl (hPB _ rfl) fun K hK => ?_
          iterate 3 (refine wps_cons rfl fun K hK => ?_; simp [hN']; refine hK _ ?_; clear hK)
          refine wps_nil (hK _ ?_); clear hK
          cases h42
          exact ⟨_, [], rfl, by simp [hN']⟩
      · refine SWp.condF' (b := decide (i41 < (c1.Words.length : Int))) (by simp) hb46 ?_
        refine SWp.exit ?_
        have h54 := congrArg some (ho43 _ (Option.some.inj h42).symm)
        cases h54
        exact hK39 _ _ [] rfl (by simp [hN'])
    subst hv
    obtain ⟨⟩ := v
    try dsimp only at h ⊢
    refine SWp.seqR rfl (hPB _ rfl) fun K hK => ?_
    refine wps_cons rfl fun K hK => ?_; simp [hN']; refine hK _ ?_; clear hK
    refine wps_nil (hK _ ?_); clear hK
    cases h
    refine SWp.ret ?_
    simp [thenS, inBlockS, res46]
end Go.Proofs.T
set_option linter.unusedVariables false
set_option linter.unusedSimpArgs false
set_option maxHeartbeats 1000000
namespace Go.Proofs.T
open Go.OM
theorem res84 : Tryd.f84.results.toList = [.tmp 4] := rfl
theorem ent84 : Enters E.P 84 := enters_of Tryd.func84 (by simp [Tryd.f84]) rfl
theorem spec_l11Add_ok (list1 : List Int) (n2 : Int) {r0 : List Int} (h : spec_l11Add list1 n2 = some r0) : Ok E 84 [.val (.sl true 1 (List.map vi list1)), .val (vi n2)] [.sl true 1 (List.map vi r0)] [] := by
  refine ok_of_body (fn := Tryd.f84) Tryd.func84 rfl (by simp [Tryd.f84]) fun C hN hP => ?_
  have hPB : ∀ l, pinK [] l = true → pinB C.pin l = true := pinB_of (by rw [hP]; rfl)
  have hN' : C.N = 23 := hN
  clear hN
  unfold spec_l11Add at h
  refine SWp.seqR rfl (hPB _ rfl) fun K hK => ?_
  refine wps_cons rfl fun K hK => ?_; simp [hN']; refine hK _ ?_; clear hK
  refine wps_nil (hK _ ?_); clear hK
  obtain ⟨j5, hj3, h⟩ := bind_some h
  refine SWp.seqC [0, 1] [] (fun v : Unit => ⟨[(0, .t (.sl true 1 (List.map vi list1))), (1, .t (vi n2))], []⟩) (fun v => j5 = Sum.inl v) (fun v hv => ?_) fun K4 hK4 => ?_
  rotate_left
  · refine SWp.seqR rfl (hPB _ rfl) fun K hK => ?_
    refine wps_cons rfl fun K hK => ?_; simp [hN']; refine hK _ ?_; clear hK
    refine wps_nil (hK _ ?_); clear hK
    refine SWp.block ?_
    refine SWp.loopO [] [0, 1, 5] [] (fun v : Int => ⟨[(0, .t (.sl true 1 (List.map vi list1))), (1, .t (vi n2)), (5, .t (vi v))], []⟩) (spec_l11Add_l1 list1 n2) _ 0 hj3 (by simp [hN']) ?_
    intro g s9 h7 ho8
    obtain ⟨i6, hg⟩ : ∃ y, y = g := ⟨_, rfl⟩
    subst hg
    simp only [spec_l11Add_l1] at h7
    try dsimp only
    refine SWp.seq ?_
    refine SWp.seqR rfl (hPB _ rfl) fun K hK => ?_
    iterate 4 (refine wps_cons rfl fun K hK => ?_; simp [hN']; refine hK _ ?_; clear hK)
    refine wps_nil (hK _ ?_); clear hK
    rcases ite_or h7 with ⟨hb10, h7⟩ | ⟨hb11, h7⟩
    · refine SWp.condT' (b := decide (i6 < (list1.length : Int))) (by simp) hb10 ?_
      refine SWp.skip ?_
      show SWp E C _ _ _
      refine SWp.seq ?_
      refine SWp.block ?_
      refine SWp.seqR rfl (hPB _ rfl) fun K hK => ?_
      iterate 2 (refine wps_cons rfl fun K hK => ?_; simp [hN']; refine hK _ ?_; clear hK)
      obtain ⟨e12, he12, h7⟩ := bind_some h7
      obtain ⟨he12a, he12b, he12c, he12d⟩ := getI_some he12
      iterate 4 (refine wps_cons rfl fun K hK => ?_; simp [hN', he12a, he12b, he12c, he12d]; refine hK _ ?_; clear hK)
      refine wps_nil (hK _ ?_); clear hK
      rcases ite_or h7 with ⟨hb13, h7⟩ | ⟨hb14, h7⟩
      · refine SWp.condT' (b := e12 == n2) (by simp) hb13 ?_
        refine SWp.seqR rfl (hPB _ rfl) fun K hK => ?_
        iterate 2 (refine wps_cons rfl fun K hK => ?_; simp [hN']; refine hK _ ?_; clear hK)
        refine wps_nil (hK _ ?_); clear hK
        have h15 := congrArg some (ho8 _ (Option.some.inj h7).symm)
        cases h15
        try dsimp only at h
        cases h
        refine SWp.ret ?_
        simp [thenS, inBlockS, res84]
      · refine SWp.condF' (b := e12 == n2) (by simp) hb14 ?_
        refine SWp.skip ?_
        show SWp E C _ _ _
        refine SWp.reg rfl (hPB _ rfl) fun K hK => ?_
        iterate 3 (refine wps_cons rfl fun K hK => ?_; simp [hN']; refine hK _ ?_; clear hK)
        refine wps_nil (hK _ ?_); clear hK
        cases h7
        exact ⟨_, [], rfl, by simp [hN']⟩
    · refine SWp.condF' (b := decide (i6 < (list1.length : Int))) (by simp) hb11 ?_
      refine SWp.exit ?_
      have h16 := congrArg some (ho8 _ (Option.some.inj h7).symm)
      cases h16
      exact hK4 _ _ [] rfl (by simp [hN'])
  subst hv
  obtain ⟨⟩ := v
  try dsimp only at h ⊢
  refine SWp.seqR rfl (hPB _ rfl) fun K hK => ?_
  iterate 3 (refine wps_cons rfl fun K hK => ?_; simp [hN']; refine hK _ ?_; clear hK)
  obtain ⟨l17, hl17, h⟩ := bind_some h
  obtain ⟨hl17a, hl17b, hl17d⟩ := appI_some hl17
  have hl17f : List.map vi list1 ++ List.map vi [n2] = List.map vi l17 := app_map (f := vi) hl17d
  simp [eSl] at hl17a hl17b hl17f
  iterate 2 (refine wps_cons rfl fun K hK => ?_; simp [hN', hl17a, hl17b, hl17f]; refine hK _ ?_; clear hK)
  refine wps_nil (hK _ ?_); clear hK
  cases h
  refine SWp.ret ?_
  simp [thenS, inBlockS, res84]
end Go.Proofs.T
set_option linter.unusedVariables false
set_option linter.unusedSimpArgs false
set_option maxHeartbeats 1000000
namespace Go.Proofs.T
open Go.OM
theorem res47 : Tryd.f47.results.toList = [.tmp 4] := rfl
theorem ent47 : Enters E.P 47 := enters_of Tryd.func47 (by simp [Tryd.f47]) rfl
theorem spec_Next_ok (c1 : GCode) (i2 : Int) {r0 : List Int} (h : spec_Next c1 i2 = some r0) : Ok E 47 [.val (GCode.enc false c1), .val (vi i2)] [.sl true 1 (List.map vi r0)] [] := by
  refine ok_of_body (fn := Tryd.f47) Tryd.func47 rfl (by simp [Tryd.f47]) fun C hN hP => ?_
  have hPB : ∀ l, pinK [] l = true → pinB C.pin l = true := pinB_of (by rw [hP]; rfl)
  have hN' : C.N = 65 := hN
  clear hN
  unfold spec_Next at h
  refine SWp.seqR rfl (hPB _ rfl) fun K hK => ?_
  iterate 2 (refine wps_cons rfl fun K hK => ?_; simp [hN']; refine hK _ ?_; clear hK)
  refine wps_nil (hK _ ?_); clear hK
  refine SWp.seqR rfl (hPB _ rfl) fun K hK => ?_
  iterate 2 (refine wps_cons rfl fun K hK => ?_; simp [hN']; refine hK _ ?_; clear hK)
  refine wps_nil (hK _ ?_); clear hK
  refine SWp.seq ?_
  refine SWp.seqR rfl (hPB _ rfl) fun K hK => ?_
  iterate 5 (refine wps_cons rfl fun K hK => ?_; simp [hN']; refine hK _ ?_; clear hK)
  obtain ⟨r3, hc4, h⟩ := bind_some h
  refine wps_call [(.take, .tmp 10), (.take, .const (.int .i64 0)), (.take, .tmp 14)] rfl rfl ent82 (spec_l01In_ok _ _ _ hc4) fun K hK => ?_; simp [hN']; refine hK _ ?_; clear hK
  refine wps_cons rfl fun K hK => ?_; simp [hN']; refine hK _ ?_; clear hK
  refine wps_nil (hK _ ?_); clear hK
  rcases ite_or h with ⟨hb5, h⟩ | ⟨hb6, h⟩
  · refine SWp.condT' (b := !r3) (by simp) hb5 ?_
    refine SWp.seqR rfl (hPB _ rfl) fun K hK => ?_
    iterate 2 (refine wps_cons rfl fun K hK => ?_; simp [hN']; refine hK _ ?_; clear hK)
    refine wps_nil (hK _ ?_); clear hK
    cases h
    refine SWp.ret ?_
    simp [thenS, inBlockS, res47]
  · refine SWp.condF' (b := !r3) (by simp) hb6 ?_
    refine SWp.skip ?_
    show SWp E C _ _ _
    refine SWp.seqR rfl (hPB _ rfl) fun K hK => ?_
    iterate 3 (refine wps_cons rfl fun K hK => ?_; simp [hN']; refine hK _ ?_; clear hK)
    obtain ⟨e7, he7, h⟩ := bind_some h
    obtain ⟨he7a, he7b, he7c, he7d⟩ := getI_some he7
    iterate 4 (refine wps_cons rfl fun K hK => ?_; simp [hN', he7a, he7b, he7c, he7d]; refine hK _ ?_; clear hK)
    refine wps_nil (hK _ ?_); clear hK
    refine SWp.seqR rfl (hPB _ rfl) fun K hK => ?_
    iterate 4 (refine wps_cons rfl fun K hK => ?_; simp [hN']; refine hK _ ?_; clear hK)
    refine wps_nil (hK _ ?_); clear hK
    obtain ⟨list17, hj8, h⟩ := bind_some h
    refine SWp.seqC [2, 5, 7] [2] (fun _ : Unit => ⟨[(2, .ref (.box 2) 0 []), (5, .t (.sl true 1 [])), (7, .t (.sl true 1 (List.map vi list17)))], [(2, [vs c1.Name, vi c1.Params, .sl false 1 (List.map vi c1.Locals), .sl false 7 (List.map (GIns.enc false) c1.Words)])]⟩) (fun _ => True) (fun _ _ => ?_) fun K9 hK9 => ?_
    rotate_left
    · refine SWp.seqR rfl (hPB _ rfl) fun K hK => ?_
      iterate 2 (refine wps_cons rfl fun K hK => ?_; simp [hN']; refine hK _ ?_; clear hK)
      refine wps_nil (hK _ ?_); clear hK
      refine SWp.block ?_
      refine SWp.seqR rfl (hPB _ rfl) fun K hK => ?_
      iterate 2 (refine wps_cons rfl fun K hK => ?_; simp [hN']; refine hK _ ?_; clear hK)
      refine wps_nil (hK _ ?_); clear hK
      rcases ite_or hj8 with ⟨hb11, hj8⟩ | ⟨hb12, hj8⟩
      · refine SWp.condT' (b := e7.Op == 20) (by simp) hb11 ?_
        refine SWp.reg rfl (hPB _ rfl) fun K hK => ?_
        iterate 2 (refine wps_cons rfl fun K hK => ?_; simp [hN']; refine hK _ ?_; clear hK)
        refine wps_nil (hK _ ?_); clear hK
        cases hj8
        exact hK9 _ () [] trivial (by simp [hN'])
      · refine SWp.condF' (b := e7.Op == 20) (by simp) hb12 ?_
        refine SWp.seqR rfl (hPB _ rfl) fun K hK => ?_
        iterate 2 (refine wps_cons rfl fun K hK => ?_; simp [hN']; refine hK _ ?_; clear hK)
        refine wps_nil (hK _ ?_); clear hK
        rcases ite_or hj8 with ⟨hb13, hj8⟩ | ⟨hb14, hj8⟩
        · refine SWp.condT' (b := e7.Op == 18) (by simp) hb13 ?_
          refine SWp.reg rfl (hPB _ rfl) fun K hK => ?_
          iterate 4 (refine wps_cons rfl fun K hK => ?_; simp [hN']; refine hK _ ?_; clear hK)
          refine wps_nil (hK _ ?_); clear hK
          cases hj8
          exact hK9 _ () [] trivial (by simp [hN'])
        · refine SWp.condF' (b := e7.Op == 18) (by simp) hb14 ?_
          refine SWp.seqR rfl (hPB _ rfl) fun K hK => ?_
          iterate 2 (refine wps_cons rfl fun K hK => ?_; simp [hN']; refine hK _ ?_; clear hK)
          refine wps_nil (hK _ ?_); clear hK
          rcases ite_or hj8 with ⟨hb15, hj8⟩ | ⟨hb16, hj8⟩
          · refine SWp.condT' (b := e7.Op == 19) (by simp) hb15 ?_
            refine SWp.reg rfl (hPB _ rfl) fun K hK => ?_
            iterate 6 (refine wps_cons rfl fun K hK => ?_; simp [hN']; refine hK _ ?_; clear hK)
            refine wps_nil (hK _ ?_); clear hK
            cases hj8
            exact hK9 _ () [] trivial (by simp [hN'])
          · refine SWp.condF' (b := e7.Op == 19) (by simp) hb16 ?_
            refine SWp.skip ?_
            cases hj8
            exact hK9 _ () [] trivial (by simp [hN'])
    obtain ⟨out38, hj18, h⟩ := bind_some h
    refine SWp.seqC [5] [] (fun _ : Unit => ⟨[(5, .t (.sl true 1 (List.map vi out38)))], []⟩) (fun _ => True) (fun _ _ => ?_) fun K19 hK19 => ?_
    rotate_left
    · refine SWp.seqR rfl (hPB _ rfl) fun K hK => ?_
      refine wps_cons rfl fun K hK => ?_; simp [hN']; refine hK _ ?_; clear hK
      refine wps_nil (hK _ ?_); clear hK
      refine SWp.block ?_
      refine SWp.loopO [] [2, 5, 7, 8] [2] (fun v : (List Int) × Int => ⟨[(2, .ref (.box 2) 0 []), (5, .t (.sl true 1 (List.map vi v.1))), (7, .t (.sl true 1 (List.map vi list17))), (8, .t (vi v.2))], [(2, [vs c1.Name, vi c1.Params, .sl false 1 (List.map vi c1.Locals), .sl false 7 (List.map (GIns.enc false) c1.Words)])]⟩) (spec_Next_l1 c1 list17) _ ([], 0) hj18 (by simp [hN']) ?_
      intro g s25 h23 ho24
      obtain ⟨out21, k22⟩ := g
      simp only [spec_Next_l1] at h23
      try dsimp only
      refine SWp.seq ?_
      refine SWp.seqR rfl (hPB _ rfl) fun K hK => ?_
      iterate 4 (refine wps_cons rfl fun K hK => ?_; simp [hN']; refine hK _ ?_; clear hK)
      refine wps_nil (hK _ ?_); clear hK
      rcases ite_or h23 with ⟨hb26, h23⟩ | ⟨hb27, h23⟩
      · refine SWp.condT' (b := decide (k22 < (list17.length : Int))) (by simp) hb26 ?_
        refine SWp.skip ?_
        show SWp E C _ _ _
        refine SWp.seq ?_
        refine SWp.block ?_
        refine SWp.seq ?_
        obtain ⟨e29, he29, h23⟩ := bind_some h23
        obtain ⟨he29a, he29b, he29c, he29d⟩ := getI_some he29
        refine SWp.drawT rfl (hPB _ rfl) [(49, .al (.slot 7) 0 [] none), (50, .t (vi k22)), (51, .ref (.slot 7) 0 [(k22.toNat, 0)]), (52, .t (vi e29)), (53, .ref (.box 2) 3 []), (54, .t (.sl false 7 (List.map (GIns.enc false) c1.Words))), (55, .t (vi (c1.Words.length : Int))), (56, .t (vi (IntKind.wrap .i64 ((c1.Words.length : Int) - 1))))] [[], [], [0, 1], [0, 1, 2], [], [4], [4, 5], [4, 5, 6], [0, 1, 2, 3, 4, 5, 6, 7]] (by simp) (by simp) (by simp [look]) rfl rfl rfl ?_ fun K hK => ?_
        · refine ⟨?_, ?_, ?_, ?_, ?_, ?_, ?_, ?_, trivial⟩
          all_goals (intro τ hbx hb hd hf K hK; try simp [vsAt] at hd; simp [vsAt] at hf; first | (refine wps_cons rfl fun K' hK' => ?_; simp [hN', hbx, hb, hd, hf, he29a, he29b, he29c, he29d]; exact hK' _ (wps_nil (hK _ (by simp [vsAt, hbx, he29a, he29b, he29c, he29d])))))
        obtain ⟨r30, hc31, h23⟩ := bind_some h23
        refine wps_call [(.take, .tmp 52), (.take, .const (.int .i64 0)), (.take, .tmp 56)] rfl rfl ent82 (spec_l01In_ok _ _ _ hc31) fun K hK => ?_; simp [hN', he29a, he29b, he29c, he29d]; refine hK _ ?_; clear hK
        refine wps_nil (hK _ ?_); clear hK
        show SWp E C _ _ _
        rcases ite_or h23 with ⟨hb32, h23⟩ | ⟨hb33, h23⟩
        · refine SWp.condT' (b := r30) (by simp) hb32 ?_
          refine SWp.reg rfl (hPB _ rfl) fun K hK => ?_
          iterate 3 (refine wps_cons rfl fun K hK => ?_; simp [hN']; refine hK _ ?_; clear hK)
          obtain ⟨e34, he34, h23⟩ := bind_some h23
          obtain ⟨he34a, he34b, he34c, he34d⟩ := getI_some he34
          iterate 2 (refine wps_cons rfl fun K hK => ?_; simp [hN', he34a, he34b, he34c, he34d]; refine hK _ ?_; clear hK)
          obtain ⟨r35, hc36, h23⟩ := bind_some h23
          refine wps_call [(.take, .tmp 58), (.take, .tmp 62)] rfl rfl ent84 (spec_l11Add_ok _ _ hc36) fun K hK => ?_; simp [hN', he34a, he34b, he34c, he34d]; refine hK _ ?_; clear hK
          refine wps_cons rfl fun K hK => ?_; simp [hN', he34a, he34b, he34c, he34d]; refine hK _ ?_; clear hK
          refine wps_nil (hK _ ?_); clear hK
          show SWp E C _ _ _
          refine SWp.reg rfl (hPB _ rfl) fun K hK => ?_
          iterate 3 (refine wps_cons rfl fun K hK => ?_; simp [hN']; refine hK _ ?_; clear hK)
          refine wps_nil (hK _ ?_); clear hK
          cases h23
          exact ⟨_, [], rfl, by simp [hN']⟩
        · refine SWp.condF' (b := r30) (by simp) hb33 ?_
          refine SWp.skip ?_
          show SWp E C _ _ _
          refine SWp.reg rfl (hPB _ rfl) fun K hK => ?_
          iterate 3 (refine wps_cons rfl fun K hK => ?_; simp [hN']; refine hK _ ?_; clear hK)
          refine wps_nil (hK _ ?_); clear hK
          cases h23
          exact ⟨_, [], rfl, by simp [hN']⟩
      · refine SWp.condF' (b := decide (k22 < (list17.length : Int))) (by simp) hb27 ?_
        refine SWp.exit ?_
        have h37 := congrArg some (ho24 _ (Option.some.inj h23).symm)
        cases h37
        exact hK19 _ () [] trivial (by simp [hN'])
    refine SWp.seqR rfl (hPB _ rfl) fun K hK => ?_
    iterate 2 (refine wps_cons rfl fun K hK => ?_; simp [hN']; refine hK _ ?_; clear hK)
    refine wps_nil (hK _ ?_); clear hK
    cases h
    refine SWp.ret ?_
    simp [thenS, inBlockS, res47]
end Go.Proofs.T
set_option linter.unusedVariables false
set_option linter.unusedSimpArgs false
set_option maxHeartbeats 1000000
namespace Go.Proofs.T
open Go.OM
theorem res67 : Tryd.f67.results.toList = [.tmp 2] := rfl
theorem ent67 : Enters E.P 67 := enters_of Tryd.func67 (by simp [Tryd.f67]) rfl
theorem spec_l29Heads_ok (c1 : GCode) {r0 : List Bool} (h : spec_l29Heads c1 = some r0) : Ok E 67 [.val (GCode.enc false c1)] [.sl true 1 (List.map vb r0)] [] := by
  refine ok_of_body (fn := Tryd.f67) Tryd.func67 rfl (by simp [Tryd.f67]) fun C hN hP => ?_
  have hPB : ∀ l, pinK [] l = true → pinB C.pin l = true := pinB_of (by rw [hP]; rfl)
  have hN' : C.N = 60 := hN
  clear hN
  unfold spec_l29Heads at h
  refine SWp.seqR rfl (hPB _ rfl) fun K hK => ?_
  iterate 2 (refine wps_cons rfl fun K hK => ?_; simp [hN']; refine hK _ ?_; clear hK)
  refine wps_nil (hK _ ?_); clear hK
  refine SWp.seqR rfl (hPB _ rfl) fun K hK => ?_
  iterate 4 (refine wps_cons rfl fun K hK => ?_; simp [hN']; refine hK _ ?_; clear hK)
  obtain ⟨l2, hl2, h⟩ := bind_some h
  obtain ⟨hl2a, hl2b, hl2c, hl2d⟩ := mkI_some hl2
  have hl2f : List.replicate (IntKind.wrap .i64 ((c1.Words.length : Int) + 1)).toNat (vb false) = List.map vb l2 := rep_map (f := vb) hl2d
  try simp only [Int.toNat_natCast] at hl2f
  iterate 2 (refine wps_cons rfl fun K hK => ?_; simp [hN', hl2a, hl2b, hl2c, hl2f]; refine hK _ ?_; clear hK)
  refine wps_nil (hK _ ?_); clear hK
  refine SWp.seqR rfl (hPB _ rfl) fun K hK => ?_
  refine wps_cons rfl fun K hK => ?_; simp [hN']; refine hK _ ?_; clear hK
  obtain ⟨e3, he3, h⟩ := bind_some h
  obtain ⟨he3a, he3b, he3c, he3d⟩ := getI_some he3
  have he3e : 0 < l2.length := by omega
  have he3g : l2[0]? = some e3 := he3c
  have he3i : l2[0] = e3 := he3d he3e
  refine wps_cons rfl fun K hK => ?_; simp [hN', he3a, he3b, he3c, he3d, he3e, he3g, he3i]; refine hK _ ?_; clear hK
  obtain ⟨l4, hl4, h⟩ := bindS_some h
  have hl4f : (List.map vb l2).set 0 (vb true) = List.map vb l4 := set_map (f := vb) hl4
  try simp only [Int.toNat_natCast] at hl4f
  refine wps_cons rfl fun K hK => ?_; simp [hN', he3a, he3b, he3c, he3d, he3e, he3g, he3i, hl4f]; refine hK _ ?_; clear hK
  refine wps_nil (hK _ ?_); clear hK
  obtain ⟨out41, hj5, h⟩ := bind_some h
  refine SWp.seqC [1, 3] [1] (fun _ : Unit => ⟨[(1, .ref (.box 1) 0 []), (3, .t (.sl true 1 (List.map vb out41)))], [(1, [vs c1.Name, vi c1.Params, .sl false 1 (List.map vi c1.Locals), .sl false 7 (List.map (GIns.enc false) c1.Words)])]⟩) (fun _ => True) (fun _ _ => ?_) fun K6 hK6 => ?_
  rotate_left
  · refine SWp.seqR rfl (hPB _ rfl) fun K hK => ?_
    refine wps_cons rfl fun K hK => ?_; simp [hN']; refine hK _ ?_; clear hK
    refine wps_nil (hK _ ?_); clear hK
    refine SWp.block ?_
    refine SWp.loopO [] [1, 3, 4] [1] (fun v : (List Bool) × Int => ⟨[(1, .ref (.box 1) 0 []), (3, .t (.sl true 1 (List.map vb v.1))), (4, .t (vi v.2))], [(1, [vs c1.Name, vi c1.Params, .sl false 1 (List.map vi c1.Locals), .sl false 7 (List.map (GIns.enc false) c1.Words)])]⟩) (spec_l29Heads_l1 c1) _ (l4, 0) hj5 (by simp [hN']) ?_
    intro g s12 h10 ho11
    obtain ⟨out8, i9⟩ := g
    simp only [spec_l29Heads_l1] at h10
    try dsimp only
    refine SWp.seq ?_
    refine SWp.seqR rfl (hPB _ rfl) fun K hK => ?_
    iterate 5 (refine wps_cons rfl fun K hK => ?_; simp [hN']; refine hK _ ?_; clear hK)
    refine wps_nil (hK _ ?_); clear hK
    rcases ite_or h10 with ⟨hb13, h10⟩ | ⟨hb14, h10⟩
    · refine SWp.condT' (b := decide (i9 < (c1.Words.length : Int))) (by simp) hb13 ?_
      refine SWp.skip ?_
      show SWp E C _ _ _
      refine SWp.seq ?_
      refine SWp.block ?_
      refine SWp.seqR rfl (hPB _ rfl) fun K hK => ?_
      iterate 3 (refine wps_cons rfl fun K hK => ?_; simp [hN']; refine hK _ ?_; clear hK)
      obtain ⟨e15, he15, h10⟩ := bind_some h10
      obtain ⟨he15a, he15b, he15c, he15d⟩ := getI_some he15
      iterate 4 (refine wps_cons rfl fun K hK => ?_; simp [hN', he15a, he15b, he15c, he15d]; refine hK _ ?_; clear hK)
      refine wps_nil (hK _ ?_); clear hK
      obtain ⟨out28, hj16, h10⟩ := bind_some h10
      refine SWp.seqC [1, 3, 4, 5] [1, 5] (fun _ : Unit => ⟨[(1, .ref (.box 1) 0 []), (3, .t (.sl true 1 (List.map vb out28))), (4, .t (vi i9)), (5, .ref (.box 5) 0 [])], [(1, [vs c1.Name, vi c1.Params, .sl false 1 (List.map vi c1.Locals), .sl false 7 (List.map (GIns.enc false) c1.Words)]), (5, [vi e15.Op, vi e15.A, vi e15.B, vi e15.C, vi e15.Num, vs e15.Name, .sl false 1 (List.map vi e15.Args)])]⟩) (fun _ => True) (fun _ _ => ?_) fun K17 hK17 => ?_
      rotate_left
      · obtain ⟨v23, hj19, hj16⟩ := bind_some hj16
        refine SWp.seqRC rfl (hPB _ rfl) [1, 3, 4, 5, 32] [1, 5] (fun _ : Unit => ⟨[(1, .ref (.box 1) 0 []), (3, .t (.sl true 1 (List.map vb out8))), (4, .t (vi i9)), (5, .ref (.box 5) 0 []), (32, .t (vb v23))], [(1, [vs c1.Name, vi c1.Params, .sl false 1 (List.map vi c1.Locals), .sl false 7 (List.map (GIns.enc false) c1.Words)]), (5, [vi e15.Op, vi e15.A, vi e15.B, vi e15.C, vi e15.Num, vs e15.Name, .sl false 1 (List.map vi e15.Args)])]⟩) (fun _ => True) (fun _ _ => ?_) fun K20 hK20 => ?_
        rotate_left
        · refine wps_cons rfl fun K hK => ?_; simp [hN']; refine hK _ ?_; clear hK
          iterate 3 (refine wps_cons rfl fun K hK => ?_; simp [hN']; refine hK _ ?_; clear hK)
          rcases ite_or hj19 with ⟨hb21, hj19⟩ | ⟨hb22, hj19⟩
          · have hb21s := hb21
            try simp at hb21s
            iterate 3 (refine wps_off fun K hK => ?_; simp [hN', hb21, hb21s]; refine hK _ ?_; clear hK)
            refine wps_cons rfl fun K hK => ?_; simp [hN', hb21, hb21s]; refine hK _ ?_; clear hK
            refine wps_nil ?_
            cases hj19
            exact hK20 _ () [] trivial (by simp [hN', hb21, hb21s])
          · have hb22s := hb22
            try simp at hb22s
            iterate 4 (refine wps_cons rfl fun K hK => ?_; simp [hN', hb22, hb22s]; refine hK _ ?_; clear hK)
            refine wps_nil ?_
            cases hj19
            exact hK20 _ () [] trivial (by simp [hN', hb22, hb22s])
        rcases ite_or hj16 with ⟨hb24, hj16⟩ | ⟨hb25, hj16⟩
        · refine SWp.condT' (b := v23) (by simp) hb24 ?_
          refine SWp.reg rfl (hPB _ rfl) fun K hK => ?_
          iterate 3 (refine wps_cons rfl fun K hK => ?_; simp [hN']; refine hK _ ?_; clear hK)
          obtain ⟨e26, he26, hj16⟩ := bind_some hj16
          obtain ⟨he26a, he26b, he26c, he26d⟩ := getI_some he26
          have he26j := he26b; try simp at he26j
          try simp only [Int.toNat_natCast] at he26c he26d
          refine wps_cons rfl fun K hK => ?_; simp [hN', he26a, he26b, he26c, he26d, he26j]; refine hK _ ?_; clear hK
          obtain ⟨l27, hl27, hj16⟩ := bindS_some hj16
          have hl27f : (List.map vb out8).set e15.Num.toNat (vb true) = List.map vb l27 := set_map (f := vb) hl27
          try simp only [Int.toNat_natCast] at hl27f
          refine wps_cons rfl fun K hK => ?_; simp [hN', he26a, he26b, he26c, he26d, he26j, hl27f]; refine hK _ ?_; clear hK
          refine wps_nil (hK _ ?_); clear hK
          cases hj16
          exact hK17 _ () [] trivial (by simp [hN'])
        · refine SWp.condF' (b := v23) (by simp) hb25 ?_
          refine SWp.skip ?_
          cases hj16
          exact hK17 _ () [] trivial (by simp [hN'])
      obtain ⟨v35, hj29, h10⟩ := bind_some h10
      refine SWp.seqRC rfl (hPB _ rfl) [1, 3, 4, 49] [1] (fun _ : Unit => ⟨[(1, .ref (.box 1) 0 []), (3, .t (.sl true 1 (List.map vb out28))), (4, .t (vi i9)), (49, .t (vb v35))], [(1, [vs c1.Name, vi c1.Params, .sl false 1 (List.map vi c1.Locals), .sl false 7 (List.map (GIns.enc false) c1.Words)])]⟩) (fun _ => True) (fun _ _ => ?_) fun K30 hK30 => ?_
      rotate_left
      · refine wps_cons rfl fun K hK => ?_; simp [hN']; refine hK _ ?_; clear hK
        iterate 3 (refine wps_cons rfl fun K hK => ?_; simp [hN']; refine hK _ ?_; clear hK)
        rcases ite_or hj29 with ⟨hb31, hj29⟩ | ⟨hb32, hj29⟩
        · have hb31s := hb31
          try simp at hb31s
          iterate 3 (refine wps_off fun K hK => ?_; simp [hN', hb31, hb31s]; refine hK _ ?_; clear hK)
          iterate 2 (refine wps_cons rfl fun K hK => ?_; simp [hN', hb31, hb31s]; refine hK _ ?_; clear hK)
          iterate 3 (refine wps_off fun K hK => ?_; simp [hN', hb31, hb31s]; refine hK _ ?_; clear hK)
          refine wps_cons rfl fun K hK => ?_; simp [hN', hb31, hb31s]; refine hK _ ?_; clear hK
          refine wps_nil ?_
          cases hj29
          exact hK30 _ () [] trivial (by simp [hN', hb31, hb31s])
        · have hb32s := hb32
          try simp at hb32s
          iterate 5 (refine wps_cons rfl fun K hK => ?_; simp [hN', hb32, hb32s]; refine hK _ ?_; clear hK)
          rcases ite_or hj29 with ⟨hb33, hj29⟩ | ⟨hb34, hj29⟩
          · have hb33s := hb33
            try simp at hb33s
            iterate 3 (refine wps_off fun K hK => ?_; simp [hN', hb32, hb32s, hb33, hb33s]; refine hK _ ?_; clear hK)
            refine wps_cons rfl fun K hK => ?_; simp [hN', hb32, hb32s, hb33, hb33s]; refine hK _ ?_; clear hK
            refine wps_nil ?_
            cases hj29
            exact hK30 _ () [] trivial (by simp [hN', hb32, hb32s, hb33, hb33s])
          · have hb34s := hb34
            try simp at hb34s
            iterate 4 (refine wps_cons rfl fun K hK => ?_; simp [hN', hb32, hb32s, hb34, hb34s]; refine hK _ ?_; clear hK)
            refine wps_nil ?_
            cases hj29
            exact hK30 _ () [] trivial (by simp [hN', hb32, hb32s, hb34, hb34s])
      rcases ite_or h10 with ⟨hb36, h10⟩ | ⟨hb37, h10⟩
      · refine SWp.condT' (b := v35) (by simp) hb36 ?_
        refine SWp.reg rfl (hPB _ rfl) fun K hK => ?_
        iterate 3 (refine wps_cons rfl fun K hK => ?_; simp [hN']; refine hK _ ?_; clear hK)
        obtain ⟨e38, he38, h10⟩ := bind_some h10
        obtain ⟨he38a, he38b, he38c, he38d⟩ := getI_some he38
        have he38j := he38b; try simp at he38j
        try simp only [Int.toNat_natCast] at he38c he38d
        refine wps_cons rfl fun K hK => ?_; simp [hN', he38a, he38b, he38c, he38d, he38j]; refine hK _ ?_; clear hK
        obtain ⟨l39, hl39, h10⟩ := bindS_some h10
        have hl39f : (List.map vb out28).set (IntKind.wrap .i64 (i9 + 1)).toNat (vb true) = List.map vb l39 := set_map (f := vb) hl39
        try simp only [Int.toNat_natCast] at hl39f
        refine wps_cons rfl fun K hK => ?_; simp [hN', he38a, he38b, he38c, he38d, he38j, hl39f]; refine hK _ ?_; clear hK
        refine wps_nil (hK _ ?_); clear hK
        show SWp E C _ _ _
        refine SWp.reg rfl (hPB _ rfl) fun K hK => ?_
        iterate 3 (refine wps_cons rfl fun K hK => ?_; simp [hN']; refine hK _ ?_; clear hK)
        refine wps_nil (hK _ ?_); clear hK
        cases h10
        exact ⟨_, [], rfl, by simp [hN']⟩
      · refine SWp.condF' (b := v35) (by simp) hb37 ?_
        refine SWp.skip ?_
        show SWp E C _ _ _
        refine SWp.reg rfl (hPB _ rfl) fun K hK => ?_
        iterate 3 (refine wps_cons rfl fun K hK => ?_; simp [hN']; refine hK _ ?_; clear hK)
        refine wps_nil (hK _ ?_); clear hK
        cases h10
        exact ⟨_, [], rfl, by simp [hN']⟩
    · refine SWp.condF' (b := decide (i9 < (c1.Words.length : Int))) (by simp) hb14 ?_
      refine SWp.exit ?_
      have h40 := congrArg some (ho11 _ (Option.some.inj h10).symm)
      cases h40
      exact hK6 _ () [] trivial (by simp [hN'])
  refine SWp.seqR rfl (hPB _ rfl) fun K hK => ?_
  iterate 4 (refine wps_cons rfl fun K hK => ?_; simp [hN']; refine hK _ ?_; clear hK)
  obtain ⟨e42, he42, h⟩ := bind_some h
  obtain ⟨he42a, he42b, he42c, he42d⟩ := getI_some he42
  have he42j := he42b; try simp at he42j
  try simp only [Int.toNat_natCast] at he42c he42d
  refine wps_cons rfl fun K hK => ?_; simp [hN', he42a, he42b, he42c, he42d, he42j]; refine hK _ ?_; clear hK
  obtain ⟨l43, hl43, h⟩ := bindS_some h
  have hl43f : (List.map vb out41).set (c1.Words.length : Int).toNat (vb true) = List.map vb l43 := set_map (f := vb) hl43
  try simp only [Int.toNat_natCast] at hl43f
  refine wps_cons rfl fun K hK => ?_; simp [hN', he42a, he42b, he42c, he42d, he42j, hl43f]; refine hK _ ?_; clear hK
  refine wps_nil (hK _ ?_); clear hK
  refine SWp.seqR rfl (hPB _ rfl) fun K hK => ?_
  iterate 2 (refine wps_cons rfl fun K hK => ?_; simp [hN']; refine hK _ ?_; clear hK)
  refine wps_nil (hK _ ?_); clear hK
  cases h
  refine SWp.ret ?_
  simp [thenS, inBlockS, res67]
end Go.Proofs.T
set_option linter.unusedVariables false
set_option linter.unusedSimpArgs false
set_option maxHeartbeats 1000000
namespace Go.Proofs.T
open Go.OM
theorem res68 : Tryd.f68.results.toList = [.tmp 4] := rfl
theorem ent68 : Enters E.P 68 := enters_of Tryd.func68 (by simp [Tryd.f68]) rfl
theorem spec_BlockAt_ok (list1 : List GBlock) (i2 : Int) {r0 : Int} (h : spec_BlockAt list1 i2 = some r0) : Ok E 68 [.val (.sl false 3 (List.map (GBlock.enc false) list1)), .val (vi i2)] [vi r0] [] := by
  refine ok_of_body (fn := Tryd.f68) Tryd.func68 rfl (by simp [Tryd.f68]) fun C hN hP => ?_
  have hPB : ∀ l, pinK [] l = true → pinB C.pin l = true := pinB_of (by rw [hP]; rfl)
  have hN' : C.N = 29 := hN
  clear hN
  unfold spec_BlockAt at h
  refine SWp.seqR rfl (hPB _ rfl) fun K hK => ?_
  refine wps_cons rfl fun K hK => ?_; simp [hN']; refine hK _ ?_; clear hK
  refine wps_nil (hK _ ?_); clear hK
  obtain ⟨j5, hj3, h⟩ := bind_some h
  refine SWp.seqC [] [] (fun v : Unit => ⟨[], []⟩) (fun v => j5 = Sum.inl v) (fun v hv => ?_) fun K4 hK4 => ?_
  rotate_left
  · refine SWp.seqR rfl (hPB _ rfl) fun K hK => ?_
    refine wps_cons rfl fun K hK => ?_; simp [hN']; refine hK _ ?_; clear hK
    refine wps_nil (hK _ ?_); clear hK
    refine SWp.block ?_
    refine SWp.loopO [] [0, 1, 5] [] (fun v : Int => ⟨[(0, .t (.sl false 3 (List.map (GBlock.enc false) list1))), (1, .t (vi i2)), (5, .t (vi v))], []⟩) (spec_BlockAt_l1 list1 i2) _ 0 hj3 (by simp [hN']) ?_
    intro g s9 h7 ho8
    obtain ⟨k6, hg⟩ : ∃ y, y = g := ⟨_, rfl⟩
    subst hg
    simp only [spec_BlockAt_l1] at h7
    try dsimp only
    refine SWp.seq ?_
    refine SWp.seqR rfl (hPB _ rfl) fun K hK => ?_
    iterate 4 (refine wps_cons rfl fun K hK => ?_; simp [hN']; refine hK _ ?_; clear hK)
    refine wps_nil (hK _ ?_); clear hK
    rcases ite_or h7 with ⟨hb10, h7⟩ | ⟨hb11, h7⟩
    · refine SWp.condT' (b := decide (k6 < (list1.length : Int))) (by simp) hb10 ?_
      refine SWp.skip ?_
      show SWp E C _ _ _
      refine SWp.seq ?_
      refine SWp.block ?_
      obtain ⟨v17, hj12, h7⟩ := bind_some h7
      refine SWp.seqRC rfl (hPB _ rfl) [0, 1, 5, 27] [] (fun _ : Unit => ⟨[(0, .t (.sl false 3 (List.map (GBlock.enc false) list1))), (1, .t (vi i2)), (5, .t (vi k6)), (27, .t (vb v17))], []⟩) (fun _ => True) (fun _ _ => ?_) fun K13 hK13 => ?_
      rotate_left
      · refine wps_cons rfl fun K hK => ?_; simp [hN']; refine hK _ ?_; clear hK
        refine wps_cons rfl fun K hK => ?_; simp [hN']; refine hK _ ?_; clear hK
        obtain ⟨e14, he14, hj12⟩ := bind_some hj12
        obtain ⟨he14a, he14b, he14c, he14d⟩ := getI_some he14
        iterate 6 (refine wps_cons rfl fun K hK => ?_; simp [hN', he14a, he14b, he14c, he14d]; refine hK _ ?_; clear hK)
        rcases ite_or hj12 with ⟨hb15, hj12⟩ | ⟨hb16, hj12⟩
        · have hb15s := hb15
          try simp at hb15s
          iterate 8 (refine wps_cons rfl fun K hK => ?_; simp [hN', he14a, he14b, he14c, he14d, hb15, hb15s]; refine hK _ ?_; clear hK)
          refine wps_nil ?_
          cases hj12
          exact hK13 _ () [] trivial (by simp [hN', he14a, he14b, he14c, he14d, hb15, hb15s])
        · have hb16s := hb16
          try simp at hb16s
          iterate 7 (refine wps_off fun K hK => ?_; simp [hN', he14a, he14b, he14c, he14d, hb16, hb16s]; refine hK _ ?_; clear hK)
          refine wps_cons rfl fun K hK => ?_; simp [hN', he14a, he14b, he14c, he14d, hb16, hb16s]; refine hK _ ?_; clear hK
          refine wps_nil ?_
          cases hj12
          exact hK13 _ () [] trivial (by simp [hN', he14a, he14b, he14c, he14d, hb16, hb16s])
      rcases ite_or h7 with ⟨hb18, h7⟩ | ⟨hb19, h7⟩
      · refine SWp.condT' (b := v17) (by simp) hb18 ?_
        refine SWp.seqR rfl (hPB _ rfl) fun K hK => ?_
        iterate 2 (refine wps_cons rfl fun K hK => ?_; simp [hN']; refine hK _ ?_; clear hK)
        refine wps_nil (hK _ ?_); clear hK
        have h20 := congrArg some (ho8 _ (Option.some.inj h7).symm)
        cases h20
        try dsimp only at h
        cases h
        refine SWp.ret ?_
        simp [thenS, inBlockS, res68]
      · refine SWp.condF' (b := v17) (by simp) hb19 ?_
        refine SWp.skip ?_
        show SWp E C _ _ _
        refine SWp.reg rfl (hPB _ rfl) fun K hK => ?_
        iterate 3 (refine wps_cons rfl fun K hK => ?_; simp [hN']; refine hK _ ?_; clear hK)
        refine wps_nil (hK _ ?_); clear hK
        cases h7
        exact ⟨_, [], rfl, by simp [hN']⟩
    · refine SWp.condF' (b := decide (k6 < (list1.length : Int))) (by simp) hb11 ?_
      refine SWp.exit ?_
      have h21 := congrArg some (ho8 _ (Option.some.inj h7).symm)
      cases h21
      exact hK4 _ _ [] rfl (by simp [hN'])
  subst hv
  obtain ⟨⟩ := v
  try dsimp only at h ⊢
  refine SWp.seqR rfl (hPB _ rfl) fun K hK => ?_
  refine wps_cons rfl fun K hK => ?_; simp [hN']; refine hK _ ?_; clear hK
  refine wps_nil (hK _ ?_); clear hK
  cases h
  refine SWp.ret ?_
  simp [thenS, inBlockS, res68]
end Go.Proofs.T
set_option linter.unusedVariables false
set_option linter.unusedSimpArgs false
set_option maxHeartbeats 1000000
namespace Go.Proofs.T
open Go.OM
theorem res29 : Tryd.f29.results.toList = [.tmp 2] := rfl
theorem ent29 : Enters E.P 29 := enters_of Tryd.func29 (by simp [Tryd.f29]) rfl
theorem spec_BlocksOf_ok (c1 : GCode) {r0 : List GBlock} (h : spec_BlocksOf c1 = some r0) : Ok E 29 [.val (GCode.enc false c1)] [.sl true 3 (List.map (GBlock.enc true) r0)] [] := by
  refine ok_of_body (fn := Tryd.f29) Tryd.func29 rfl (by simp [Tryd.f29]) fun C hN hP => ?_
  have hPB : ∀ l, pinK [] l = true → pinB C.pin l = true := pinB_of (by rw [hP]; rfl)
  have hN' : C.N = 90 := hN
  clear hN
  unfold spec_BlocksOf at h
  refine SWp.seqR rfl (hPB _ rfl) fun K hK => ?_
  iterate 2 (refine wps_cons rfl fun K hK => ?_; simp [hN']; refine hK _ ?_; clear hK)
  refine wps_nil (hK _ ?_); clear hK
  refine SWp.seqR rfl (hPB _ rfl) fun K hK => ?_
  iterate 2 (refine wps_cons rfl fun K hK => ?_; simp [hN']; refine hK _ ?_; clear hK)
  refine wps_nil (hK _ ?_); clear hK
  refine SWp.seq ?_
  refine SWp.seqR rfl (hPB _ rfl) fun K hK => ?_
  refine wps_cons rfl fun K hK => ?_; simp [hN']; refine hK _ ?_; clear hK
  obtain ⟨r2, hc3, h⟩ := bind_some h
  refine wps_call [(.take, .tmp 13)] rfl rfl ent46 (spec_CodeOk_ok _ hc3) fun K hK => ?_; simp [hN']; refine hK _ ?_; clear hK
  refine wps_cons rfl fun K hK => ?_; simp [hN']; refine hK _ ?_; clear hK
  refine wps_nil (hK _ ?_); clear hK
  rcases ite_or h with ⟨hb4, h⟩ | ⟨hb5, h⟩
  · refine SWp.condT' (b := !r2) (by simp) hb4 ?_
    refine SWp.seqR rfl (hPB _ rfl) fun K hK => ?_
    iterate 2 (refine wps_cons rfl fun K hK => ?_; simp [hN']; refine hK _ ?_; clear hK)
    refine wps_nil (hK _ ?_); clear hK
    cases h
    refine SWp.ret ?_
    simp [thenS, inBlockS, res29]
  · refine SWp.condF' (b := !r2) (by simp) hb5 ?_
    refine SWp.skip ?_
    show SWp E C _ _ _
    refine SWp.seqR rfl (hPB _ rfl) fun K hK => ?_
    refine wps_cons rfl fun K hK => ?_; simp [hN']; refine hK _ ?_; clear hK
    obtain ⟨r6, hc7, h⟩ := bind_some h
    refine wps_call [(.take, .tmp 17)] rfl rfl ent67 (spec_l29Heads_ok _ hc7) fun K hK => ?_; simp [hN']; refine hK _ ?_; clear hK
    refine wps_cons rfl fun K hK => ?_; simp [hN']; refine hK _ ?_; clear hK
    refine wps_nil (hK _ ?_); clear hK
    refine SWp.seqR rfl (hPB _ rfl) fun K hK => ?_
    refine wps_cons rfl fun K hK => ?_; simp [hN']; refine hK _ ?_; clear hK
    refine wps_nil (hK _ ?_); clear hK
    obtain ⟨out24, hj8, h⟩ := bind_some h
    refine SWp.seqC [1, 3] [1] (fun _ : Unit => ⟨[(1, .ref (.box 1) 0 []), (3, .t (.sl true 3 (List.map (GBlock.enc true) out24)))], [(1, [vs c1.Name, vi c1.Params, .sl false 1 (List.map vi c1.Locals), .sl false 7 (List.map (GIns.enc false) c1.Words)])]⟩) (fun _ => True) (fun _ _ => ?_) fun K9 hK9 => ?_
    rotate_left
    · refine SWp.seqR rfl (hPB _ rfl) fun K hK => ?_
      refine wps_cons rfl fun K hK => ?_; simp [hN']; refine hK _ ?_; clear hK
      refine wps_nil (hK _ ?_); clear hK
      refine SWp.block ?_
      refine SWp.loopO [] [1, 3, 4, 5, 6] [1] (fun v : (List GBlock) × Int × Int => ⟨[(1, .ref (.box 1) 0 []), (3, .t (.sl true 3 (List.map (GBlock.enc true) v.1))), (4, .t (.sl true 1 (List.map vb r6))), (5, .t (vi v.2.1)), (6, .t (vi v.2.2))], [(1, [vs c1.Name, vi c1.Params, .sl false 1 (List.map vi c1.Locals), .sl false 7 (List.map (GIns.enc false) c1.Words)])]⟩) (spec_BlocksOf_l1 r6) _ ([], 0, 1) hj8 (by simp [hN']) ?_
      intro g s16 h14 ho15
      obtain ⟨out11, from12, i13⟩ := g
      simp only [spec_BlocksOf_l1] at h14
      try dsimp only
      refine SWp.seq ?_
      refine SWp.seqR rfl (hPB _ rfl) fun K hK => ?_
      iterate 4 (refine wps_cons rfl fun K hK => ?_; simp [hN']; refine hK _ ?_; clear hK)
      refine wps_nil (hK _ ?_); clear hK
      rcases ite_or h14 with ⟨hb17, h14⟩ | ⟨hb18, h14⟩
      · refine SWp.condT' (b := decide (i13 < (r6.length : Int))) (by simp) hb17 ?_
        refine SWp.skip ?_
        show SWp E C _ _ _
        refine SWp.seq ?_
        refine SWp.block ?_
        refine SWp.seqR rfl (hPB _ rfl) fun K hK => ?_
        iterate 2 (refine wps_cons rfl fun K hK => ?_; simp [hN']; refine hK _ ?_; clear hK)
        obtain ⟨e19, he19, h14⟩ := bind_some h14
        obtain ⟨he19a, he19b, he19c, he19d⟩ := getI_some he19
        iterate 2 (refine wps_cons rfl fun K hK => ?_; simp [hN', he19a, he19b, he19c, he19d]; refine hK _ ?_; clear hK)
        refine wps_nil (hK _ ?_); clear hK
        rcases ite_or h14 with ⟨hb20, h14⟩ | ⟨hb21, h14⟩
        · refine SWp.condT' (b := e19) (by simp) hb20 ?_
          refine SWp.seqR rfl (hPB _ rfl) fun K hK => ?_
          iterate 5 (refine wps_cons rfl fun K hK => ?_; simp [hN']; refine hK _ ?_; clear hK)
          obtain ⟨l22, hl22, h14⟩ := bind_some h14
          obtain ⟨hl22a, hl22b, hl22d⟩ := appI_some hl22
          have hl22f : List.map (GBlock.enc true) out11 ++ List.map (GBlock.enc true) [(⟨from12, i13, []⟩ : GBlock)] = List.map (GBlock.enc true) l22 := app_map (f := (GBlock.enc true)) hl22d
          simp [eSl, GBlock.enc] at hl22a hl22b hl22f
          iterate 2 (refine wps_cons rfl fun K hK => ?_; simp [hN', hl22a, hl22b, hl22f]; refine hK _ ?_; clear hK)
          refine wps_nil (hK _ ?_); clear hK
          refine SWp.reg rfl (hPB _ rfl) fun K hK => ?_
          iterate 2 (refine wps_cons rfl fun K hK => ?_; simp [hN']; refine hK _ ?_; clear hK)
          refine wps_nil (hK _ ?_); clear hK
          show SWp E C _ _ _
          refine SWp.reg rfl (hPB _ rfl) fun K hK => ?_
          iterate 3 (refine wps_cons rfl fun K hK => ?_; simp [hN']; refine hK _ ?_; clear hK)
          refine wps_nil (hK _ ?_); clear hK
          cases h14
          exact ⟨_, [], rfl, by simp [hN']⟩
        · refine SWp.condF' (b := e19) (by simp) hb21 ?_
          refine SWp.skip ?_
          show SWp E C _ _ _
          refine SWp.reg rfl (hPB _ rfl) fun K hK => ?_
          iterate 3 (refine wps_cons rfl fun K hK => ?_; simp [hN']; refine hK _ ?_; clear hK)
          refine wps_nil (hK _ ?_); clear hK
          cases h14
          exact ⟨_, [], rfl, by simp [hN']⟩
      · refine SWp.condF' (b := decide (i13 < (r6.length : Int))) (by simp) hb18 ?_
        refine SWp.exit ?_
        have h23 := congrArg some (ho15 _ (Option.some.inj h14).symm)
        cases h23
        exact hK9 _ () [] trivial (by simp [hN'])
    obtain ⟨out76, hj25, h⟩ := bind_some h
    refine SWp.seqC [3] [] (fun _ : Unit => ⟨[(3, .t (.sl true 3 (List.map (GBlock.enc true) out76)))], []⟩) (fun _ => True) (fun _ _ => ?_) fun K26 hK26 => ?_
    rotate_left
    · refine SWp.seqR rfl (hPB _ rfl) fun K hK => ?_
      refine wps_cons rfl fun K hK => ?_; simp [hN']; refine hK _ ?_; clear hK
      refine wps_nil (hK _ ?_); clear hK
      refine SWp.block ?_
      refine SWp.loopO [] [1, 3, 7] [1] (fun v : (List GBlock) × Int => ⟨[(1, .ref (.box 1) 0 []), (3, .t (.sl true 3 (List.map (GBlock.enc true) v.1))), (7, .t (vi v.2))], [(1, [vs c1.Name, vi c1.Params, .sl false 1 (List.map vi c1.Locals), .sl false 7 (List.map (GIns.enc false) c1.Words)])]⟩) (spec_BlocksOf_l2 c1) _ (out24, 0) hj25 (by simp [hN']) ?_
      intro g s32 h30 ho31
      obtain ⟨out28, k29⟩ := g
      simp only [spec_BlocksOf_l2] at h30
      try dsimp only
      refine SWp.seq ?_
      refine SWp.seqR rfl (hPB _ rfl) fun K hK => ?_
      iterate 4 (refine wps_cons rfl fun K hK => ?_; simp [hN']; refine hK _ ?_; clear hK)
      refine wps_nil (hK _ ?_); clear hK
      rcases ite_or h30 with ⟨hb33, h30⟩ | ⟨hb34, h30⟩
      · refine SWp.condT' (b := decide (k29 < (out28.length : Int))) (by simp) hb33 ?_
        refine SWp.skip ?_
        show SWp E C _ _ _
        obtain ⟨out74, hj35, h30⟩ := bind_some h30
        refine SWp.seqC [1, 3, 7] [1] (fun _ : Unit => ⟨[(1, .ref (.box 1) 0 []), (3, .t (.sl true 3 (List.map (GBlock.enc true) out74))), (7, .t (vi k29))], [(1, [vs c1.Name, vi c1.Params, .sl false 1 (List.map vi c1.Locals), .sl false 7 (List.map (GIns.enc false) c1.Words)])]⟩) (fun _ => True) (fun _ _ => ?_) fun K36 hK36 => ?_
        rotate_left
        · refine SWp.block ?_
          refine SWp.seq ?_
          obtain ⟨e39, he39, hj35⟩ := bind_some hj35
          obtain ⟨he39a, he39b, he39c, he39d⟩ := getI_some he39
          refine SWp.drawT rfl (hPB _ rfl) [(42, .t (GCode.enc false c1)), (43, .al (.slot 3) 0 [] none), (44, .t (vi k29)), (45, .ref (.slot 3) 0 [(k29.toNat, 0)]), (46, .ref (.slot 3) 0 [(k29.toNat, 1)]), (47, .t (vi e39.To)), (48, .t (vi (IntKind.wrap .i64 (e39.To - 1))))] [[], [], [], [1, 2], [1, 2, 3], [1, 2, 3, 4], [1, 2, 3, 4, 5], [0, 1, 2, 3, 4, 5, 6], [0, 1, 2, 3, 4, 5, 6, 7]] (by simp) (by simp) (by simp [look]) rfl rfl rfl ?_ fun K hK => ?_
          · refine ⟨?_, ?_, ?_, ?_, ?_, ?_, ?_, trivial⟩
            all_goals (intro τ hbx hb hd hf K hK; try simp [vsAt] at hd; simp [vsAt] at hf; first | (refine wps_cons rfl fun K' hK' => ?_; simp [hN', hbx, hb, hd, hf, he39a, he39b, he39c, he39d]; exact hK' _ (wps_nil (hK _ (by simp [vsAt, hbx, he39a, he39b, he39c, he39d])))))
          obtain ⟨r40, hc41, hj35⟩ := bind_some hj35
          refine wps_call [(.take, .tmp 42), (.take, .tmp 48)] rfl rfl ent47 (spec_Next_ok _ _ hc41) fun K hK => ?_; simp [hN', he39a, he39b, he39c, he39d]; refine hK _ ?_; clear hK
          refine wps_cons rfl fun K hK => ?_; simp [hN', he39a, he39b, he39c, he39d]; refine hK _ ?_; clear hK
          refine wps_nil (hK _ ?_); clear hK
          show SWp E C _ _ _
          refine SWp.seqR rfl (hPB _ rfl) fun K hK => ?_
          iterate 2 (refine wps_cons rfl fun K hK => ?_; simp [hN']; refine hK _ ?_; clear hK)
          obtain ⟨l42, hl42, hj35⟩ := bind_some hj35
          obtain ⟨hl42a, hl42b, hl42c, hl42d⟩ := mkI_some hl42
          have hl42f : List.replicate (out28.length : Int).toNat (vb false) = List.map vb l42 := rep_map (f := vb) hl42d
          try simp only [Int.toNat_natCast] at hl42f
          iterate 2 (refine wps_cons rfl fun K hK => ?_; simp [hN', hl42a, hl42b, hl42c, hl42f]; refine hK _ ?_; clear hK)
          refine wps_nil (hK _ ?_); clear hK
          obtain ⟨has59, hj43, hj35⟩ := bind_some hj35
          refine SWp.seqC [1, 3, 7, 9] [1] (fun _ : Unit => ⟨[(1, .ref (.box 1) 0 []), (3, .t (.sl true 3 (List.map (GBlock.enc true) out28))), (7, .t (vi k29)), (9, .t (.sl true 1 (List.map vb has59)))], [(1, [vs c1.Name, vi c1.Params, .sl false 1 (List.map vi c1.Locals), .sl false 7 (List.map (GIns.enc false) c1.Words)])]⟩) (fun _ => True) (fun _ _ => ?_) fun K44 hK44 => ?_
          rotate_left
          · refine SWp.seqR rfl (hPB _ rfl) fun K hK => ?_
            refine wps_cons rfl fun K hK => ?_; simp [hN']; refine hK _ ?_; clear hK
            refine wps_nil (hK _ ?_); clear hK
            refine SWp.block ?_
            refine SWp.loopO [] [1, 3, 7, 8, 9, 10] [1] (fun v : (List Bool) × Int => ⟨[(1, .ref (.box 1) 0 []), (3, .t (.sl true 3 (List.map (GBlock.enc true) out28))), (7, .t (vi k29)), (8, .t (.sl true 1 (List.map vi r40))), (9, .t (.sl true 1 (List.map vb v.1))), (10, .t (vi v.2))], [(1, [vs c1.Name, vi c1.Params, .sl false 1 (List.map vi c1.Locals), .sl false 7 (List.map (GIns.enc false) c1.Words)])]⟩) (spec_BlocksOf_l3 out28 r40) _ (l42, 0) hj43 (by simp [hN']) ?_
            intro g s50 h48 ho49
            obtain ⟨has46, i47⟩ := g
            simp only [spec_BlocksOf_l3] at h48
            try dsimp only
            refine SWp.seq ?_
            refine SWp.seqR rfl (hPB _ rfl) fun K hK => ?_
            iterate 4 (refine wps_cons rfl fun K hK => ?_; simp [hN']; refine hK _ ?_; clear hK)
            refine wps_nil (hK _ ?_); clear hK
            rcases ite_or h48 with ⟨hb51, h48⟩ | ⟨hb52, h48⟩
            · refine SWp.condT' (b := decide (i47 < (r40.length : Int))) (by simp) hb51 ?_
              refine SWp.skip ?_
              show SWp E C _ _ _
              refine SWp.seq ?_
              refine SWp.block ?_
              refine SWp.reg rfl (hPB _ rfl) fun K hK => ?_
              iterate 4 (refine wps_cons rfl fun K hK => ?_; simp [hN']; refine hK _ ?_; clear hK)
              obtain ⟨e53, he53, h48⟩ := bind_some h48
              obtain ⟨he53a, he53b, he53c, he53d⟩ := getI_some he53
              iterate 2 (refine wps_cons rfl fun K hK => ?_; simp [hN', he53a, he53b, he53c, he53d]; refine hK _ ?_; clear hK)
              obtain ⟨r54, hc55, h48⟩ := bind_some h48
              refine wps_call [(.bor, .tmp 60), (.take, .tmp 64)] rfl rfl ent68 (spec_BlockAt_ok _ _ hc55) fun K hK => ?_; simp [hN', he53a, he53b, he53c, he53d]; refine hK _ ?_; clear hK
              obtain ⟨e56, he56, h48⟩ := bind_some h48
              obtain ⟨he56a, he56b, he56c, he56d⟩ := getI_some he56
              refine wps_cons rfl fun K hK => ?_; simp [hN', he53a, he53b, he53c, he53d, he56a, he56b, he56c, he56d]; refine hK _ ?_; clear hK
              obtain ⟨l57, hl57, h48⟩ := bindS_some h48
              have hl57f : (List.map vb has46).set r54.toNat (vb true) = List.map vb l57 := set_map (f := vb) hl57
              try simp only [Int.toNat_natCast] at hl57f
              refine wps_cons rfl fun K hK => ?_; simp [hN', he53a, he53b, he53c, he53d, he56a, he56b, he56c, he56d, hl57f]; refine hK _ ?_; clear hK
              refine wps_nil (hK _ ?_); clear hK
              show SWp E C _ _ _
              refine SWp.reg rfl (hPB _ rfl) fun K hK => ?_
              iterate 3 (refine wps_cons rfl fun K hK => ?_; simp [hN']; refine hK _ ?_; clear hK)
              refine wps_nil (hK _ ?_); clear hK
              cases h48
              exact ⟨_, [], rfl, by simp [hN']⟩
            · refine SWp.condF' (b := decide (i47 < (r40.length : Int))) (by simp) hb52 ?_
              refine SWp.exit ?_
              have h58 := congrArg some (ho49 _ (Option.some.inj h48).symm)
              cases h58
              exact hK44 _ () [] trivial (by simp [hN'])
          refine SWp.seqR rfl (hPB _ rfl) fun K hK => ?_
          refine wps_cons rfl fun K hK => ?_; simp [hN']; refine hK _ ?_; clear hK
          refine wps_nil (hK _ ?_); clear hK
          refine SWp.block ?_
          refine SWp.loopO [] [1, 3, 7, 9, 11] [1] (fun v : (List GBlock) × Int => ⟨[(1, .ref (.box 1) 0 []), (3, .t (.sl true 3 (List.map (GBlock.enc true) v.1))), (7, .t (vi k29)), (9, .t (.sl true 1 (List.map vb has59))), (11, .t (vi v.2))], [(1, [vs c1.Name, vi c1.Params, .sl false 1 (List.map vi c1.Locals), .sl false 7 (List.map (GIns.enc false) c1.Words)])]⟩) (spec_BlocksOf_l4 k29 has59) _ (out28, 0) hj35 (by simp [hN']) ?_
          intro g s64 h62 ho63
          obtain ⟨out60, i61⟩ := g
          simp only [spec_BlocksOf_l4] at h62
          try dsimp only
          refine SWp.seq ?_
          refine SWp.seqR rfl (hPB _ rfl) fun K hK => ?_
          iterate 4 (refine wps_cons rfl fun K hK => ?_; simp [hN']; refine hK _ ?_; clear hK)
          refine wps_nil (hK _ ?_); clear hK
          rcases ite_or h62 with ⟨hb65, h62⟩ | ⟨hb66, h62⟩
          · refine SWp.condT' (b := decide (i61 < (has59.length : Int))) (by simp) hb65 ?_
            refine SWp.skip ?_
            show SWp E C _ _ _
            refine SWp.seq ?_
            refine SWp.block ?_
            refine SWp.seqR rfl (hPB _ rfl) fun K hK => ?_
            iterate 2 (refine wps_cons rfl fun K hK => ?_; simp [hN']; refine hK _ ?_; clear hK)
            obtain ⟨e67, he67, h62⟩ := bind_some h62
            obtain ⟨he67a, he67b, he67c, he67d⟩ := getI_some he67
            iterate 2 (refine wps_cons rfl fun K hK => ?_; simp [hN', he67a, he67b, he67c, he67d]; refine hK _ ?_; clear hK)
            refine wps_nil (hK _ ?_); clear hK
            rcases ite_or h62 with ⟨hb68, h62⟩ | ⟨hb69, h62⟩
            · refine SWp.condT' (b := e67) (by simp) hb68 ?_
              refine SWp.reg rfl (hPB _ rfl) fun K hK => ?_
              iterate 4 (refine wps_cons rfl fun K hK => ?_; simp [hN']; refine hK _ ?_; clear hK)
              obtain ⟨e70, he70, h62⟩ := bind_some h62
              obtain ⟨he70a, he70b, he70c, he70d⟩ := getI_some he70
              iterate 5 (refine wps_cons rfl fun K hK => ?_; simp [hN', he70a, he70b, he70c, he70d]; refine hK _ ?_; clear hK)
              obtain ⟨l71, hl71, h62⟩ := bind_some h62
              obtain ⟨hl71a, hl71b, hl71d⟩ := appI_some hl71
              have hl71f : List.map vi e70.Next ++ List.map vi [i61] = List.map vi l71 := app_map (f := vi) hl71d
              simp [eSl] at hl71a hl71b hl71f
              iterate 3 (refine wps_cons rfl fun K hK => ?_; simp [hN', he70a, he70b, he70c, he70d, hl71a, hl71b, hl71f]; refine hK _ ?_; clear hK)
              obtain ⟨l72, hl72, h62⟩ := bindS_some h62
              have hl72f : (List.map (GBlock.enc true) out60).set k29.toNat (.agg [vi e70.From, vi e70.To, .sl true 1 (List.map vi l71)]) = List.map (GBlock.enc true) l72 := set_map (f := (GBlock.enc true)) hl72
              try simp only [Int.toNat_natCast] at hl72f
              refine wps_cons rfl fun K hK => ?_; simp [hN', he70a, he70b, he70c, he70d, hl71a, hl71b, hl71f, hl72f]; refine hK _ ?_; clear hK
              refine wps_nil (hK _ ?_); clear hK
              show SWp E C _ _ _
              refine SWp.reg rfl (hPB _ rfl) fun K hK => ?_
              iterate 3 (refine wps_cons rfl fun K hK => ?_; simp [hN']; refine hK _ ?_; clear hK)
              refine wps_nil (hK _ ?_); clear hK
              cases h62
              exact ⟨_, [], rfl, by simp [hN']⟩
            · refine SWp.condF' (b := e67) (by simp) hb69 ?_
              refine SWp.skip ?_
              show SWp E C _ _ _
              refine SWp.reg rfl (hPB _ rfl) fun K hK => ?_
              iterate 3 (refine wps_cons rfl fun K hK => ?_; simp [hN']; refine hK _ ?_; clear hK)
              refine wps_nil (hK _ ?_); clear hK
              cases h62
              exact ⟨_, [], rfl, by simp [hN']⟩
          · refine SWp.condF' (b := decide (i61 < (has59.length : Int))) (by simp) hb66 ?_
            refine SWp.exit ?_
            have h73 := congrArg some (ho63 _ (Option.some.inj h62).symm)
            cases h73
            exact hK36 _ () [] trivial (by simp [hN'])
        refine SWp.reg rfl (hPB _ rfl) fun K hK => ?_
        iterate 3 (refine wps_cons rfl fun K hK => ?_; simp [hN']; refine hK _ ?_; clear hK)
        refine wps_nil (hK _ ?_); clear hK
        cases h30
        exact ⟨_, [], rfl, by simp [hN']⟩
      · refine SWp.condF' (b := decide (k29 < (out28.length : Int))) (by simp) hb34 ?_
        refine SWp.exit ?_
        have h75 := congrArg some (ho31 _ (Option.some.inj h30).symm)
        cases h75
        exact hK26 _ () [] trivial (by simp [hN'])
    refine SWp.seqR rfl (hPB _ rfl) fun K hK => ?_
    iterate 2 (refine wps_cons rfl fun K hK => ?_; simp [hN']; refine hK _ ?_; clear hK)
    refine wps_nil (hK _ ?_); clear hK
    cases h
    refine SWp.ret ?_
    simp [thenS, inBlockS, res29]
end Go.Proofs.T
set_option linter.unusedVariables false
set_option linter.unusedSimpArgs false
set_option maxHeartbeats 1000000
namespace Go.Proofs.T
open Go.OM
theorem res66 : Tryd.f66.results.toList = [.tmp 6] := rfl
theorem ent66 : Enters E.P 66 := enters_of Tryd.func66 (by simp [Tryd.f66]) rfl
theorem impl_in_ok (n1 : Int) (low2 : Int) (high3 : Int) {r0 : Bool} (h : impl_in n1 low2 high3 = some r0) : Ok E 66 [.val (vi n1), .val (vi low2), .val (vi high3)] [vb r0] [] := by
  refine ok_of_body (fn := Tryd.f66) Tryd.func66 rfl (by simp [Tryd.f66]) fun C hN hP => ?_
  have hPB : ∀ l, pinK [] l = true → pinB C.pin l = true := pinB_of (by rw [hP]; rfl)
  have hN' : C.N = 15 := hN
  clear hN
  unfold impl_in at h
  refine SWp.seqR rfl (hPB _ rfl) fun K hK => ?_
  refine wps_cons rfl fun K hK => ?_; simp [hN']; refine hK _ ?_; clear hK
  refine wps_nil (hK _ ?_); clear hK
  obtain ⟨v8, hj4, h⟩ := bind_some h
  refine SWp.seqRC rfl (hPB _ rfl) [6] [] (fun _ : Unit => ⟨[(6, .t (vb v8))], []⟩) (fun _ => True) (fun _ _ => ?_) fun K5 hK5 => ?_
  rotate_left
  · refine wps_cons rfl fun K hK => ?_; simp [hN']; refine hK _ ?_; clear hK
    iterate 3 (refine wps_cons rfl fun K hK => ?_; simp [hN']; refine hK _ ?_; clear hK)
    rcases ite_or hj4 with ⟨hb6, hj4⟩ | ⟨hb7, hj4⟩
    · have hb6s := hb6
      try simp at hb6s
      iterate 5 (refine wps_cons rfl fun K hK => ?_; simp [hN', hb6, hb6s]; refine hK _ ?_; clear hK)
      refine wps_nil ?_
      cases hj4
      exact hK5 _ () [] trivial (by simp [hN', hb6, hb6s])
    · have hb7s := hb7
      try simp at hb7s
      iterate 3 (refine wps_off fun K hK => ?_; simp [hN', hb7, hb7s]; refine hK _ ?_; clear hK)
      iterate 2 (refine wps_cons rfl fun K hK => ?_; simp [hN', hb7, hb7s]; refine hK _ ?_; clear hK)
      refine wps_nil ?_
      cases hj4
      exact hK5 _ () [] trivial (by simp [hN', hb7, hb7s])
  cases h
  refine SWp.ret ?_
  simp [thenS, inBlockS, res66]
end Go.Proofs.T
set_option linter.unusedVariables false
set_option linter.unusedSimpArgs false
set_option maxHeartbeats 1000000
namespace Go.Proofs.T
open Go.OM
theorem res111 : Tryd.f111.results.toList = [.tmp 2] := rfl
theorem ent111 : Enters E.P 111 := enters_of Tryd.func111 (by simp [Tryd.f111]) rfl
theorem impl_isLetter_ok (b1 : Int) {r0 : Bool} (h : impl_isLetter b1 = some r0) : Ok E 111 [.val (vk .u8 b1)] [vb r0] [] := by
  refine ok_of_body (fn := Tryd.f111) Tryd.func111 rfl (by simp [Tryd.f111]) fun C hN hP => ?_
  have hPB : ∀ l, pinK [] l = true → pinB C.pin l = true := pinB_of (by rw [hP]; rfl)
  have hN' : C.N = 9 := hN
  clear hN
  unfold impl_isLetter at h
  refine SWp.seqR rfl (hPB _ rfl) fun K hK => ?_
  refine wps_cons rfl fun K hK => ?_; simp [hN']; refine hK _ ?_; clear hK
  refine wps_nil (hK _ ?_); clear hK
  obtain ⟨v6, hj2, h⟩ := bind_some h
  refine SWp.seqRC rfl (hPB _ rfl) [2] [] (fun _ : Unit => ⟨[(2, .t (vb v6))], []⟩) (fun _ => True) (fun _ _ => ?_) fun K3 hK3 => ?_
  rotate_left
  · refine wps_cons rfl fun K hK => ?_; simp [hN']; refine hK _ ?_; clear hK
    iterate 2 (refine wps_cons rfl fun K hK => ?_; simp [hN']; refine hK _ ?_; clear hK)
    rcases ite_or hj2 with ⟨hb4, hj2⟩ | ⟨hb5, hj2⟩
    · have hb4s := hb4
      try simp at hb4s
      iterate 4 (refine wps_cons rfl fun K hK => ?_; simp [hN', hb4, hb4s]; refine hK _ ?_; clear hK)
      refine wps_nil ?_
      cases hj2
      exact hK3 _ () [] trivial (by simp [hN', hb4, hb4s])
    · have hb5s := hb5
      try simp at hb5s
      iterate 2 (refine wps_off fun K hK => ?_; simp [hN', hb5, hb5s]; refine hK _ ?_; clear hK)
      iterate 2 (refine wps_cons rfl fun K hK => ?_; simp [hN', hb5, hb5s]; refine hK _ ?_; clear hK)
      refine wps_nil ?_
      cases hj2
      exact hK3 _ () [] trivial (by simp [hN', hb5, hb5s])
  cases h
  refine SWp.ret ?_
  simp [thenS, inBlockS, res111]
end Go.Proofs.T
set_option linter.unusedVariables false
set_option linter.unusedSimpArgs false
set_option maxHeartbeats 1000000
namespace Go.Proofs.T
open Go.OM
theorem res112 : Tryd.f112.results.toList = [.tmp 2] := rfl
theorem ent112 : Enters E.P 112 := enters_of Tryd.func112 (by simp [Tryd.f112]) rfl
theorem impl_isFigure_ok (b1 : Int) {r0 : Bool} (h : impl_isFigure b1 = some r0) : Ok E 112 [.val (vk .u8 b1)] [vb r0] [] := by
  refine ok_of_body (fn := Tryd.f112) Tryd.func112 rfl (by simp [Tryd.f112]) fun C hN hP => ?_
  have hPB : ∀ l, pinK [] l = true → pinB C.pin l = true := pinB_of (by rw [hP]; rfl)
  have hN' : C.N = 9 := hN
  clear hN
  unfold impl_isFigure at h
  refine SWp.seqR rfl (hPB _ rfl) fun K hK => ?_
  refine wps_cons rfl fun K hK => ?_; simp [hN']; refine hK _ ?_; clear hK
  refine wps_nil (hK _ ?_); clear hK
  obtain ⟨v6, hj2, h⟩ := bind_some h
  refine SWp.seqRC rfl (hPB _ rfl) [2] [] (fun _ : Unit => ⟨[(2, .t (vb v6))], []⟩) (fun _ => True) (fun _ _ => ?_) fun K3 hK3 => ?_
  rotate_left
  · refine wps_cons rfl fun K hK => ?_; simp [hN']; refine hK _ ?_; clear hK
    iterate 2 (refine wps_cons rfl fun K hK => ?_; simp [hN']; refine hK _ ?_; clear hK)
    rcases ite_or hj2 with ⟨hb4, hj2⟩ | ⟨hb5, hj2⟩
    · have hb4s := hb4
      try simp at hb4s
      iterate 4 (refine wps_cons rfl fun K hK => ?_; simp [hN', hb4, hb4s]; refine hK _ ?_; clear hK)
      refine wps_nil ?_
      cases hj2
      exact hK3 _ () [] trivial (by simp [hN', hb4, hb4s])
    · have hb5s := hb5
      try simp at hb5s
      iterate 2 (refine wps_off fun K hK => ?_; simp [hN', hb5, hb5s]; refine hK _ ?_; clear hK)
      iterate 2 (refine wps_cons rfl fun K hK => ?_; simp [hN', hb5, hb5s]; refine hK _ ?_; clear hK)
      refine wps_nil ?_
      cases hj2
      exact hK3 _ () [] trivial (by simp [hN', hb5, hb5s])
  cases h
  refine SWp.ret ?_
  simp [thenS, inBlockS, res112]
end Go.Proofs.T
/-
  DERIVED: THE SHELF's CONTRACTS AT THIS DUMP, IN PLAIN WORDS (tools/lay-plain.mjs out of 'TrydShelf.lean', which tools/lay-shelf.mjs wrote): THE SAME DECLARATIONS UNDER THE SAME NAMES: 'import', 'namespace', 'open', 'def', 'theorem' AND NOTHING ELSE: no command of the shelf's: FOR A HAND-IN. Each laying: the table of numbers ('.._ren') and one theorem, a field a fact of the dump's own or the kernel's comparison; each contract: ONE APPLICATION.
-/
namespace Go.Proofs
open Go.Shelf
def Tryd.lays129_ren : Go.Shelf.Ren := ⟨fun | 129 => 146 | n => n, fun | 53 => 148 | 3 => 3 | 4 => 4 | 46 => 158 | 5 => 5 | 9 => 9 | n => n, fun | n => n⟩
theorem Tryd.lays129 : Go.Proofs.Lays.n129 Tryd.prog Tryd.lays129_ren := {
  mixed := by kernel_rfl
  f129 := Tryd.func146.trans (congrArg some (by kernel_rfl))
  t3 := Tryd.underlying3
  a3 := Tryd.isAgg3
  z3 := Tryd.sizeOf3
  v3 := Tryd.zeroValue3
  t4 := Tryd.underlying4
  a4 := Tryd.isAgg4
  z4 := Tryd.sizeOf4
  v4 := Tryd.zeroValue4
  t5 := Tryd.underlying5
  a5 := Tryd.isAgg5
  z5 := Tryd.sizeOf5
  v5 := Tryd.zeroValue5
  t9 := Tryd.underlying9
  a9 := Tryd.isAgg9
  z9 := Tryd.sizeOf9
  v9 := Tryd.zeroValue9
  t46 := Tryd.underlying158
  a46 := Tryd.isAgg158
  z46 := Tryd.sizeOf158
  v46 := Tryd.zeroValue158
  t53 := Tryd.underlying148
  a53 := Tryd.isAgg148
  z53 := Tryd.sizeOf148
  v53 := Tryd.zeroValue148 }
/-- bits.Len64: "Len64 returns the minimum number of bits required to represent x; the result is 0 for x == 0.": IT RETURNS 'Lib.bitLen x'; the world is as it was. ('h0', 'h1': x is a uint64.) (LAID: no walk: one application.) -/
theorem Tryd.bits_Len64 (x : Int) (w : World) (h0 : 0 ≤ x) (h1 : x ≤ 18446744073709551615) :
    Calls Tryd.prog 146 #[.int .u64 x] w fun e w' => e = .returned (.int .i64 (Lib.bitLen x.toNat)) ∧ w' = w := Any.bits_Len64 Tryd.lays129 x w h0 h1
def Tryd.lays317_ren : Go.Shelf.Ren := ⟨fun | 317 => 145 | n => n, fun | 3 => 3 | 46 => 158 | n => n, fun | n => n⟩
theorem Tryd.lays317 : Go.Proofs.Lays.n317 Tryd.prog Tryd.lays317_ren := {
  mixed := by kernel_rfl
  f317 := Tryd.func145.trans (congrArg some (by kernel_rfl))
  t3 := Tryd.underlying3
  a3 := Tryd.isAgg3
  z3 := Tryd.sizeOf3
  v3 := Tryd.zeroValue3
  t46 := Tryd.underlying158
  a46 := Tryd.isAgg158
  z46 := Tryd.sizeOf158
  v46 := Tryd.zeroValue158 }
open Go.Lib in
/-- internal/strconv.log10Pow2: "log10Pow2(x) returns ⌊log₁₀ 2**x⌋ = ⌊x * log₁₀ 2⌋.": '(x * 78913) >> 18', at an x up to 64 (a length in bits). The world is as it was. (LAID: no walk: one application.) -/
theorem Tryd.internal_strconv_log10Pow2 (x : Nat) (h : x ≤ 64) (w : World) :
    Calls Tryd.prog 145 #[.int .i64 x] w fun e w' => e = .returned (.int .i64 (Lib.l10 x)) ∧ w' = w := Any.internal_strconv_log10Pow2 Tryd.lays317 x h w
def Tryd.lays318_ren : Go.Shelf.Ren := ⟨fun | 318 => 147 | n => n, fun | 3 => 3 | 4 => 4 | n => n, fun | n => n⟩
theorem Tryd.lays318 : Go.Proofs.Lays.n318 Tryd.prog Tryd.lays318_ren := {
  mixed := by kernel_rfl
  f318 := Tryd.func147.trans (congrArg some (by kernel_rfl))
  t3 := Tryd.underlying3
  a3 := Tryd.isAgg3
  z3 := Tryd.sizeOf3
  v3 := Tryd.zeroValue3
  t4 := Tryd.underlying4
  a4 := Tryd.isAgg4
  z4 := Tryd.sizeOf4
  v4 := Tryd.zeroValue4 }
open Go.Lib in
/-- internal/strconv.bool2: "bool2 converts b to an integer: 1 for true, 0 for false." The world is as it was. (LAID: no walk: one application.) -/
theorem Tryd.internal_strconv_bool2_int (b : Bool) (w : World) :
    Calls Tryd.prog 147 #[.bool b] w fun e w' => e = .returned (.int .i64 (if b then 1 else 0)) ∧ w' = w := Any.internal_strconv_bool2_int Tryd.lays318 b w
def Tryd.lays283_ren : Go.Shelf.Ren := ⟨fun | 283 => 136 | n => n, fun | 3 => 3 | 9 => 9 | 4 => 4 | n => n, fun | n => n⟩
theorem Tryd.lays283 : Go.Proofs.Lays.n283 Tryd.prog Tryd.lays283_ren := {
  mixed := by kernel_rfl
  f283 := Tryd.func136.trans (congrArg some (by kernel_rfl))
  t3 := Tryd.underlying3
  a3 := Tryd.isAgg3
  z3 := Tryd.sizeOf3
  v3 := Tryd.zeroValue3
  t4 := Tryd.underlying4
  a4 := Tryd.isAgg4
  z4 := Tryd.sizeOf4
  v4 := Tryd.zeroValue4
  t9 := Tryd.underlying9
  a9 := Tryd.isAgg9
  z9 := Tryd.sizeOf9
  v9 := Tryd.zeroValue9 }
open Go.Lib in
/-- internal/strconv.small: "small returns the string for an i with 0 <= i < nSmalls.": i's decimal numeral. The world is as it was. (LAID: no walk: one application.) -/
theorem Tryd.internal_strconv_small (i : Nat) (h : i < 100) (w : World) :
    Calls Tryd.prog 136 #[.int .i64 i] w fun e w' => e = .returned (.string ⟨(Lib.decDigits i).toArray⟩) ∧ w' = w := Any.internal_strconv_small Tryd.lays283 i h w
def Tryd.laysM284_ren : Go.Shelf.Ren := ⟨fun | 284 => 137 | 129 => 146 | 317 => 145 | 318 => 147 | n => n, fun | 53 => 148 | 3 => 3 | 212 => 155 | 0 => 0 | 4 => 4 | 46 => 158 | 5 => 5 | 9 => 9 | n => n, fun | 17 => 0 | n => n⟩
theorem Tryd.laysM284 : Go.Proofs.LaysM.n284 Tryd.prog Tryd.laysM284_ren := {
  mixed := by kernel_rfl
  f129 := Tryd.func146.trans (congrArg some (by kernel_rfl))
  f284 := Tryd.func137.trans (congrArg some (by kernel_rfl))
  f317 := Tryd.func145.trans (congrArg some (by kernel_rfl))
  f318 := Tryd.func147.trans (congrArg some (by kernel_rfl))
  t0 := Tryd.underlying0
  a0 := Tryd.isAgg0
  z0 := Tryd.sizeOf0
  v0 := Tryd.zeroValue0
  t3 := Tryd.underlying3
  a3 := Tryd.isAgg3
  z3 := Tryd.sizeOf3
  v3 := Tryd.zeroValue3
  t4 := Tryd.underlying4
  a4 := Tryd.isAgg4
  z4 := Tryd.sizeOf4
  v4 := Tryd.zeroValue4
  t5 := Tryd.underlying5
  a5 := Tryd.isAgg5
  z5 := Tryd.sizeOf5
  v5 := Tryd.zeroValue5
  t9 := Tryd.underlying9
  a9 := Tryd.isAgg9
  z9 := Tryd.sizeOf9
  v9 := Tryd.zeroValue9
  t46 := Tryd.underlying158
  a46 := Tryd.isAgg158
  z46 := Tryd.sizeOf158
  v46 := Tryd.zeroValue158
  t53 := Tryd.underlying148
  a53 := Tryd.isAgg148
  z53 := Tryd.sizeOf148
  v53 := Tryd.zeroValue148
  t212 := Tryd.underlying155
  a212 := Tryd.isAgg155
  z212 := Tryd.sizeOf155
  v212 := Tryd.zeroValue155
  g17 := by kernel_rfl
  i0 := by kernel_rfl
  i3 := by kernel_rfl
  i4 := by kernel_rfl
  i5 := by kernel_rfl
  i9 := by kernel_rfl
  i46 := by kernel_rfl
  i53 := by kernel_rfl
  i212 := by kernel_rfl
  m17 := by kernel_rfl }
open Go.Lib in
/-- internal/strconv.numDigits, at a d that is not 0: THE NUMBER OF d's DECIMAL DIGITS. The world is as it was. (LAID: no walk: one application.) -/
theorem Tryd.internal_strconv_numDigits (u : Nat) (h1 : 1 ≤ u) (h2 : u < 18446744073709551616) (w : World) (htab : Lib.TabIs Tryd.prog w "internal/strconv.uint64pow10" .u64 Lib.pow10Tab) :
    Calls Tryd.prog 137 #[.int .u64 u] w fun e w' => e = .returned (.int .i64 (Lib.nDigits u)) ∧ w' = w := Any.internal_strconv_numDigits Tryd.laysM284 u h1 h2 w htab
def Tryd.lays285_ren : Go.Shelf.Ren := ⟨fun | 285 => 138 | n => n, fun | 37 => 127 | 53 => 148 | 3 => 3 | 4 => 4 | 51 => 156 | 9 => 9 | 5 => 5 | 0 => 0 | n => n, fun | n => n⟩
theorem Tryd.lays285 : Go.Proofs.Lays.n285 Tryd.prog Tryd.lays285_ren := {
  mixed := by kernel_rfl
  f285 := Tryd.func138.trans (congrArg some (by kernel_rfl))
  t0 := Tryd.underlying0
  a0 := Tryd.isAgg0
  z0 := Tryd.sizeOf0
  v0 := Tryd.zeroValue0
  t3 := Tryd.underlying3
  a3 := Tryd.isAgg3
  z3 := Tryd.sizeOf3
  v3 := Tryd.zeroValue3
  t4 := Tryd.underlying4
  a4 := Tryd.isAgg4
  z4 := Tryd.sizeOf4
  v4 := Tryd.zeroValue4
  t5 := Tryd.underlying5
  a5 := Tryd.isAgg5
  z5 := Tryd.sizeOf5
  v5 := Tryd.zeroValue5
  t9 := Tryd.underlying9
  a9 := Tryd.isAgg9
  z9 := Tryd.sizeOf9
  v9 := Tryd.zeroValue9
  t37 := Tryd.underlying127
  a37 := Tryd.isAgg127
  z37 := Tryd.sizeOf127
  v37 := Tryd.zeroValue127
  t51 := Tryd.underlying156
  a51 := Tryd.isAgg156
  z51 := Tryd.sizeOf156
  v51 := Tryd.zeroValue156
  t53 := Tryd.underlying148
  a53 := Tryd.isAgg148
  z53 := Tryd.sizeOf148
  v53 := Tryd.zeroValue148 }
open Go.RowKit Go.Sort Go.Lib in
/-- internal/strconv.formatBase10: "formatBase10 formats the decimal representation of u into a. The caller is responsible for ensuring that a is big enough to hold u. If a is too big, leading zeros will be filled in as needed.": THE ROW HOLDS u's DIGITS ('FmtInv .. 0 ..': every place t holds 'dg u (len - 1 - t)'); all else is as it was but for the count of draws. (LAID: no walk: one application.) -/
theorem Tryd.internal_strconv_formatBase10 (blk off cap : Nat) (u : Nat) (d : Array UInt8) (w : World) (hH : Holds (fun (b : UInt8) => Value.int .u8 (b.toNat : Int)) w blk off d) (hu : u < 10 ^ d.size) (hu64 : u < 18446744073709551616) (hsz : d.size < 4611686018427387904) :
    Calls Tryd.prog 138 #[.slice (some ⟨blk, off, none⟩) d.size cap, .int .u64 u] w fun e w' =>
      e = .returned (.tuple #[]) ∧ ∃ (n v' : Nat) (dk : Array UInt8), w' = (putRow (fun (b : UInt8) => Value.int .u8 (b.toNat : Int)) w blk off dk).drewN n ∧ FmtInv d.size u 0 v' dk := Any.internal_strconv_formatBase10 Tryd.lays285 blk off cap u d w hH hu hu64 hsz
def Tryd.laysM246_ren : Go.Shelf.Ren := ⟨fun | 246 => 124 | 283 => 136 | 284 => 137 | 285 => 138 | 286 => 139 | 129 => 146 | 317 => 145 | 318 => 147 | 319 => 148 | 320 => 149 | 337 => 151 | 338 => 152 | n => n, fun | 2 => 2 | 3 => 3 | 9 => 9 | 4 => 4 | 171 => 147 | 0 => 0 | 53 => 148 | 37 => 127 | 5 => 5 | 173 => 151 | 212 => 155 | 51 => 156 | 20 => 20 | 213 => 157 | 46 => 158 | 232 => 164 | 233 => 165 | n => n, fun | 17 => 0 | 18 => 1 | 19 => 2 | n => n⟩
theorem Tryd.laysM246 : Go.Proofs.LaysM.n246 Tryd.prog Tryd.laysM246_ren := {
  mixed := by kernel_rfl
  f129 := Tryd.func146.trans (congrArg some (by kernel_rfl))
  f246 := Tryd.func124.trans (congrArg some (by kernel_rfl))
  f283 := Tryd.func136.trans (congrArg some (by kernel_rfl))
  f284 := Tryd.func137.trans (congrArg some (by kernel_rfl))
  f285 := Tryd.func138.trans (congrArg some (by kernel_rfl))
  f286 := Tryd.func139.trans (congrArg some (by kernel_rfl))
  f317 := Tryd.func145.trans (congrArg some (by kernel_rfl))
  f318 := Tryd.func147.trans (congrArg some (by kernel_rfl))
  f319 := Tryd.func148.trans (congrArg some (by kernel_rfl))
  f320 := Tryd.func149.trans (congrArg some (by kernel_rfl))
  f337 := Tryd.func151.trans (congrArg some (by kernel_rfl))
  f338 := Tryd.func152.trans (congrArg some (by kernel_rfl))
  t0 := Tryd.underlying0
  a0 := Tryd.isAgg0
  z0 := Tryd.sizeOf0
  v0 := Tryd.zeroValue0
  t2 := Tryd.underlying2
  a2 := Tryd.isAgg2
  z2 := Tryd.sizeOf2
  v2 := Tryd.zeroValue2
  t3 := Tryd.underlying3
  a3 := Tryd.isAgg3
  z3 := Tryd.sizeOf3
  v3 := Tryd.zeroValue3
  t4 := Tryd.underlying4
  a4 := Tryd.isAgg4
  z4 := Tryd.sizeOf4
  v4 := Tryd.zeroValue4
  t5 := Tryd.underlying5
  a5 := Tryd.isAgg5
  z5 := Tryd.sizeOf5
  v5 := Tryd.zeroValue5
  t9 := Tryd.underlying9
  a9 := Tryd.isAgg9
  z9 := Tryd.sizeOf9
  v9 := Tryd.zeroValue9
  t20 := Tryd.underlying20
  a20 := Tryd.isAgg20
  z20 := Tryd.sizeOf20
  v20 := Tryd.zeroValue20
  t37 := Tryd.underlying127
  a37 := Tryd.isAgg127
  z37 := Tryd.sizeOf127
  v37 := Tryd.zeroValue127
  t46 := Tryd.underlying158
  a46 := Tryd.isAgg158
  z46 := Tryd.sizeOf158
  v46 := Tryd.zeroValue158
  t51 := Tryd.underlying156
  a51 := Tryd.isAgg156
  z51 := Tryd.sizeOf156
  v51 := Tryd.zeroValue156
  t53 := Tryd.underlying148
  a53 := Tryd.isAgg148
  z53 := Tryd.sizeOf148
  v53 := Tryd.zeroValue148
  t171 := Tryd.underlying147
  a171 := Tryd.isAgg147
  z171 := Tryd.sizeOf147
  v171 := Tryd.zeroValue147
  t173 := Tryd.underlying151
  a173 := Tryd.isAgg151
  z173 := Tryd.sizeOf151
  v173 := Tryd.zeroValue151
  t212 := Tryd.underlying155
  a212 := Tryd.isAgg155
  z212 := Tryd.sizeOf155
  v212 := Tryd.zeroValue155
  t213 := Tryd.underlying157
  a213 := Tryd.isAgg157
  z213 := Tryd.sizeOf157
  t232 := Tryd.underlying164
  a232 := Tryd.isAgg164
  z232 := Tryd.sizeOf164
  v232 := Tryd.zeroValue164
  t233 := Tryd.underlying165
  a233 := Tryd.isAgg165
  z233 := Tryd.sizeOf165
  v233 := Tryd.zeroValue165
  g17 := by kernel_rfl
  g18 := by kernel_rfl
  g19 := by kernel_rfl
  i0 := by kernel_rfl
  i2 := by kernel_rfl
  i3 := by kernel_rfl
  i4 := by kernel_rfl
  i5 := by kernel_rfl
  i9 := by kernel_rfl
  i20 := by kernel_rfl
  i37 := by kernel_rfl
  i46 := by kernel_rfl
  i51 := by kernel_rfl
  i53 := by kernel_rfl
  i171 := by kernel_rfl
  i173 := by kernel_rfl
  i212 := by kernel_rfl
  i232 := by kernel_rfl
  i233 := by kernel_rfl
  m17 := by kernel_rfl
  m18 := by kernel_rfl
  m19 := by kernel_rfl }
open Go.RowKit Go.Sort Go.Lib in
/-- internal/strconv.FormatInt: "FormatInt returns the string representation of i in the given base": AT BASE 10: i's decimal numeral, for every int64. The world behind the call: the world before it, new blocks behind the heap, draws. (LAID: no walk: one application.) -/
theorem Tryd.internal_strconv_FormatInt_10 (n : Int) (h0 : -9223372036854775808 ≤ n) (h1 : n ≤ 9223372036854775807) (w : World) (htab : Lib.TabIs Tryd.prog w "internal/strconv.uint64pow10" .u64 Lib.pow10Tab) :
    Calls Tryd.prog 124 #[.int .i64 n, .int .i64 10] w fun e w' => e = .returned (.string ⟨(Lib.itoa n).toArray⟩) ∧ ∃ k os, w' = grow (w.drewN k) os := Any.internal_strconv_FormatInt_10 Tryd.laysM246 n h0 h1 w htab
def Tryd.lays246_ren : Go.Shelf.Ren := ⟨fun | 246 => 124 | 283 => 136 | 284 => 137 | 285 => 138 | 286 => 139 | 129 => 146 | 317 => 145 | 318 => 147 | 319 => 148 | 320 => 149 | 337 => 151 | 338 => 152 | n => n, fun | 2 => 2 | 3 => 3 | 9 => 9 | 4 => 4 | 171 => 147 | 0 => 0 | 53 => 148 | 37 => 127 | 5 => 5 | 173 => 151 | 212 => 155 | 51 => 156 | 20 => 20 | 213 => 157 | 46 => 158 | 232 => 164 | 233 => 165 | n => n, fun | 17 => 0 | 18 => 1 | 19 => 2 | n => n⟩
theorem Tryd.lays246 : Go.Proofs.Lays.n246 Tryd.prog Tryd.lays246_ren := {
  mixed := by kernel_rfl
  f129 := Tryd.func146.trans (congrArg some (by kernel_rfl))
  f246 := Tryd.func124.trans (congrArg some (by kernel_rfl))
  f283 := Tryd.func136.trans (congrArg some (by kernel_rfl))
  f284 := Tryd.func137.trans (congrArg some (by kernel_rfl))
  f285 := Tryd.func138.trans (congrArg some (by kernel_rfl))
  f286 := Tryd.func139.trans (congrArg some (by kernel_rfl))
  f317 := Tryd.func145.trans (congrArg some (by kernel_rfl))
  f318 := Tryd.func147.trans (congrArg some (by kernel_rfl))
  f319 := Tryd.func148.trans (congrArg some (by kernel_rfl))
  f320 := Tryd.func149.trans (congrArg some (by kernel_rfl))
  f337 := Tryd.func151.trans (congrArg some (by kernel_rfl))
  f338 := Tryd.func152.trans (congrArg some (by kernel_rfl))
  t0 := Tryd.underlying0
  a0 := Tryd.isAgg0
  z0 := Tryd.sizeOf0
  v0 := Tryd.zeroValue0
  t2 := Tryd.underlying2
  a2 := Tryd.isAgg2
  z2 := Tryd.sizeOf2
  v2 := Tryd.zeroValue2
  t3 := Tryd.underlying3
  a3 := Tryd.isAgg3
  z3 := Tryd.sizeOf3
  v3 := Tryd.zeroValue3
  t4 := Tryd.underlying4
  a4 := Tryd.isAgg4
  z4 := Tryd.sizeOf4
  v4 := Tryd.zeroValue4
  t5 := Tryd.underlying5
  a5 := Tryd.isAgg5
  z5 := Tryd.sizeOf5
  v5 := Tryd.zeroValue5
  t9 := Tryd.underlying9
  a9 := Tryd.isAgg9
  z9 := Tryd.sizeOf9
  v9 := Tryd.zeroValue9
  t20 := Tryd.underlying20
  a20 := Tryd.isAgg20
  z20 := Tryd.sizeOf20
  v20 := Tryd.zeroValue20
  t37 := Tryd.underlying127
  a37 := Tryd.isAgg127
  z37 := Tryd.sizeOf127
  v37 := Tryd.zeroValue127
  t46 := Tryd.underlying158
  a46 := Tryd.isAgg158
  z46 := Tryd.sizeOf158
  v46 := Tryd.zeroValue158
  t51 := Tryd.underlying156
  a51 := Tryd.isAgg156
  z51 := Tryd.sizeOf156
  v51 := Tryd.zeroValue156
  t53 := Tryd.underlying148
  a53 := Tryd.isAgg148
  z53 := Tryd.sizeOf148
  v53 := Tryd.zeroValue148
  t171 := Tryd.underlying147
  a171 := Tryd.isAgg147
  z171 := Tryd.sizeOf147
  v171 := Tryd.zeroValue147
  t173 := Tryd.underlying151
  a173 := Tryd.isAgg151
  z173 := Tryd.sizeOf151
  v173 := Tryd.zeroValue151
  t212 := Tryd.underlying155
  a212 := Tryd.isAgg155
  z212 := Tryd.sizeOf155
  v212 := Tryd.zeroValue155
  t213 := Tryd.underlying157
  a213 := Tryd.isAgg157
  z213 := Tryd.sizeOf157
  t232 := Tryd.underlying164
  a232 := Tryd.isAgg164
  z232 := Tryd.sizeOf164
  v232 := Tryd.zeroValue164
  t233 := Tryd.underlying165
  a233 := Tryd.isAgg165
  z233 := Tryd.sizeOf165
  v233 := Tryd.zeroValue165
  g17 := by kernel_rfl
  g18 := by kernel_rfl
  g19 := by kernel_rfl }
open Go.RowKit Go.Sort Go.Lib in
/-- THE ROAD WITHOUT THE TABLE: 0 <= i < 100: two constants are read, nothing is laid: no premise on the world, and the world is as it was. (LAID: no walk: one application.) -/
theorem Tryd.internal_strconv_FormatInt_10_small (i : Nat) (hi : i < 100) (w : World) :
    Calls Tryd.prog 124 #[.int .i64 i, .int .i64 10] w fun e w' => e = .returned (.string ⟨(Lib.decDigits i).toArray⟩) ∧ w' = w := Any.internal_strconv_FormatInt_10_small Tryd.lays246 i hi w
def Tryd.laysM243_ren : Go.Shelf.Ren := ⟨fun | 243 => 105 | 246 => 124 | 283 => 136 | 284 => 137 | 285 => 138 | 286 => 139 | 129 => 146 | 317 => 145 | 318 => 147 | 319 => 148 | 320 => 149 | 337 => 151 | 338 => 152 | n => n, fun | 3 => 3 | 9 => 9 | 2 => 2 | 4 => 4 | 171 => 147 | 0 => 0 | 53 => 148 | 37 => 127 | 5 => 5 | 173 => 151 | 212 => 155 | 51 => 156 | 20 => 20 | 213 => 157 | 46 => 158 | 232 => 164 | 233 => 165 | n => n, fun | 17 => 0 | 18 => 1 | 19 => 2 | n => n⟩
theorem Tryd.laysM243 : Go.Proofs.LaysM.n243 Tryd.prog Tryd.laysM243_ren := {
  mixed := by kernel_rfl
  f129 := Tryd.func146.trans (congrArg some (by kernel_rfl))
  f243 := Tryd.func105.trans (congrArg some (by kernel_rfl))
  f246 := Tryd.func124.trans (congrArg some (by kernel_rfl))
  f283 := Tryd.func136.trans (congrArg some (by kernel_rfl))
  f284 := Tryd.func137.trans (congrArg some (by kernel_rfl))
  f285 := Tryd.func138.trans (congrArg some (by kernel_rfl))
  f286 := Tryd.func139.trans (congrArg some (by kernel_rfl))
  f317 := Tryd.func145.trans (congrArg some (by kernel_rfl))
  f318 := Tryd.func147.trans (congrArg some (by kernel_rfl))
  f319 := Tryd.func148.trans (congrArg some (by kernel_rfl))
  f320 := Tryd.func149.trans (congrArg some (by kernel_rfl))
  f337 := Tryd.func151.trans (congrArg some (by kernel_rfl))
  f338 := Tryd.func152.trans (congrArg some (by kernel_rfl))
  t0 := Tryd.underlying0
  a0 := Tryd.isAgg0
  z0 := Tryd.sizeOf0
  v0 := Tryd.zeroValue0
  t2 := Tryd.underlying2
  a2 := Tryd.isAgg2
  z2 := Tryd.sizeOf2
  v2 := Tryd.zeroValue2
  t3 := Tryd.underlying3
  a3 := Tryd.isAgg3
  z3 := Tryd.sizeOf3
  v3 := Tryd.zeroValue3
  t4 := Tryd.underlying4
  a4 := Tryd.isAgg4
  z4 := Tryd.sizeOf4
  v4 := Tryd.zeroValue4
  t5 := Tryd.underlying5
  a5 := Tryd.isAgg5
  z5 := Tryd.sizeOf5
  v5 := Tryd.zeroValue5
  t9 := Tryd.underlying9
  a9 := Tryd.isAgg9
  z9 := Tryd.sizeOf9
  v9 := Tryd.zeroValue9
  t20 := Tryd.underlying20
  a20 := Tryd.isAgg20
  z20 := Tryd.sizeOf20
  v20 := Tryd.zeroValue20
  t37 := Tryd.underlying127
  a37 := Tryd.isAgg127
  z37 := Tryd.sizeOf127
  v37 := Tryd.zeroValue127
  t46 := Tryd.underlying158
  a46 := Tryd.isAgg158
  z46 := Tryd.sizeOf158
  v46 := Tryd.zeroValue158
  t51 := Tryd.underlying156
  a51 := Tryd.isAgg156
  z51 := Tryd.sizeOf156
  v51 := Tryd.zeroValue156
  t53 := Tryd.underlying148
  a53 := Tryd.isAgg148
  z53 := Tryd.sizeOf148
  v53 := Tryd.zeroValue148
  t171 := Tryd.underlying147
  a171 := Tryd.isAgg147
  z171 := Tryd.sizeOf147
  v171 := Tryd.zeroValue147
  t173 := Tryd.underlying151
  a173 := Tryd.isAgg151
  z173 := Tryd.sizeOf151
  v173 := Tryd.zeroValue151
  t212 := Tryd.underlying155
  a212 := Tryd.isAgg155
  z212 := Tryd.sizeOf155
  v212 := Tryd.zeroValue155
  t213 := Tryd.underlying157
  a213 := Tryd.isAgg157
  z213 := Tryd.sizeOf157
  t232 := Tryd.underlying164
  a232 := Tryd.isAgg164
  z232 := Tryd.sizeOf164
  v232 := Tryd.zeroValue164
  t233 := Tryd.underlying165
  a233 := Tryd.isAgg165
  z233 := Tryd.sizeOf165
  v233 := Tryd.zeroValue165
  g17 := by kernel_rfl
  g18 := by kernel_rfl
  g19 := by kernel_rfl
  i0 := by kernel_rfl
  i2 := by kernel_rfl
  i3 := by kernel_rfl
  i4 := by kernel_rfl
  i5 := by kernel_rfl
  i9 := by kernel_rfl
  i20 := by kernel_rfl
  i37 := by kernel_rfl
  i46 := by kernel_rfl
  i51 := by kernel_rfl
  i53 := by kernel_rfl
  i171 := by kernel_rfl
  i173 := by kernel_rfl
  i212 := by kernel_rfl
  i232 := by kernel_rfl
  i233 := by kernel_rfl
  m17 := by kernel_rfl
  m18 := by kernel_rfl
  m19 := by kernel_rfl }
open Go.RowKit Go.Sort Go.Lib in
/-- internal/strconv.Itoa: "Itoa is equivalent to FormatInt(int64(i), 10).": i's decimal numeral, for every int. (LAID: no walk: one application.) -/
theorem Tryd.internal_strconv_Itoa (n : Int) (h0 : -9223372036854775808 ≤ n) (h1 : n ≤ 9223372036854775807) (w : World) (htab : Lib.TabIs Tryd.prog w "internal/strconv.uint64pow10" .u64 Lib.pow10Tab) :
    Calls Tryd.prog 105 #[.int .i64 n] w fun e w' => e = .returned (.string ⟨(Lib.itoa n).toArray⟩) ∧ ∃ k os, w' = grow (w.drewN k) os := Any.internal_strconv_Itoa Tryd.laysM243 n h0 h1 w htab
def Tryd.lays243_ren : Go.Shelf.Ren := ⟨fun | 243 => 105 | 246 => 124 | 283 => 136 | 284 => 137 | 285 => 138 | 286 => 139 | 129 => 146 | 317 => 145 | 318 => 147 | 319 => 148 | 320 => 149 | 337 => 151 | 338 => 152 | n => n, fun | 3 => 3 | 9 => 9 | 2 => 2 | 4 => 4 | 171 => 147 | 0 => 0 | 53 => 148 | 37 => 127 | 5 => 5 | 173 => 151 | 212 => 155 | 51 => 156 | 20 => 20 | 213 => 157 | 46 => 158 | 232 => 164 | 233 => 165 | n => n, fun | 17 => 0 | 18 => 1 | 19 => 2 | n => n⟩
theorem Tryd.lays243 : Go.Proofs.Lays.n243 Tryd.prog Tryd.lays243_ren := {
  mixed := by kernel_rfl
  f129 := Tryd.func146.trans (congrArg some (by kernel_rfl))
  f243 := Tryd.func105.trans (congrArg some (by kernel_rfl))
  f246 := Tryd.func124.trans (congrArg some (by kernel_rfl))
  f283 := Tryd.func136.trans (congrArg some (by kernel_rfl))
  f284 := Tryd.func137.trans (congrArg some (by kernel_rfl))
  f285 := Tryd.func138.trans (congrArg some (by kernel_rfl))
  f286 := Tryd.func139.trans (congrArg some (by kernel_rfl))
  f317 := Tryd.func145.trans (congrArg some (by kernel_rfl))
  f318 := Tryd.func147.trans (congrArg some (by kernel_rfl))
  f319 := Tryd.func148.trans (congrArg some (by kernel_rfl))
  f320 := Tryd.func149.trans (congrArg some (by kernel_rfl))
  f337 := Tryd.func151.trans (congrArg some (by kernel_rfl))
  f338 := Tryd.func152.trans (congrArg some (by kernel_rfl))
  t0 := Tryd.underlying0
  a0 := Tryd.isAgg0
  z0 := Tryd.sizeOf0
  v0 := Tryd.zeroValue0
  t2 := Tryd.underlying2
  a2 := Tryd.isAgg2
  z2 := Tryd.sizeOf2
  v2 := Tryd.zeroValue2
  t3 := Tryd.underlying3
  a3 := Tryd.isAgg3
  z3 := Tryd.sizeOf3
  v3 := Tryd.zeroValue3
  t4 := Tryd.underlying4
  a4 := Tryd.isAgg4
  z4 := Tryd.sizeOf4
  v4 := Tryd.zeroValue4
  t5 := Tryd.underlying5
  a5 := Tryd.isAgg5
  z5 := Tryd.sizeOf5
  v5 := Tryd.zeroValue5
  t9 := Tryd.underlying9
  a9 := Tryd.isAgg9
  z9 := Tryd.sizeOf9
  v9 := Tryd.zeroValue9
  t20 := Tryd.underlying20
  a20 := Tryd.isAgg20
  z20 := Tryd.sizeOf20
  v20 := Tryd.zeroValue20
  t37 := Tryd.underlying127
  a37 := Tryd.isAgg127
  z37 := Tryd.sizeOf127
  v37 := Tryd.zeroValue127
  t46 := Tryd.underlying158
  a46 := Tryd.isAgg158
  z46 := Tryd.sizeOf158
  v46 := Tryd.zeroValue158
  t51 := Tryd.underlying156
  a51 := Tryd.isAgg156
  z51 := Tryd.sizeOf156
  v51 := Tryd.zeroValue156
  t53 := Tryd.underlying148
  a53 := Tryd.isAgg148
  z53 := Tryd.sizeOf148
  v53 := Tryd.zeroValue148
  t171 := Tryd.underlying147
  a171 := Tryd.isAgg147
  z171 := Tryd.sizeOf147
  v171 := Tryd.zeroValue147
  t173 := Tryd.underlying151
  a173 := Tryd.isAgg151
  z173 := Tryd.sizeOf151
  v173 := Tryd.zeroValue151
  t212 := Tryd.underlying155
  a212 := Tryd.isAgg155
  z212 := Tryd.sizeOf155
  v212 := Tryd.zeroValue155
  t213 := Tryd.underlying157
  a213 := Tryd.isAgg157
  z213 := Tryd.sizeOf157
  t232 := Tryd.underlying164
  a232 := Tryd.isAgg164
  z232 := Tryd.sizeOf164
  v232 := Tryd.zeroValue164
  t233 := Tryd.underlying165
  a233 := Tryd.isAgg165
  z233 := Tryd.sizeOf165
  v233 := Tryd.zeroValue165
  g17 := by kernel_rfl
  g18 := by kernel_rfl
  g19 := by kernel_rfl }
open Go.RowKit Go.Sort Go.Lib in
/-- THE ROAD WITHOUT THE TABLE: 0 <= i < 100. (LAID: no walk: one application.) -/
theorem Tryd.internal_strconv_Itoa_small (i : Nat) (hi : i < 100) (w : World) :
    Calls Tryd.prog 105 #[.int .i64 i] w fun e w' => e = .returned (.string ⟨(Lib.decDigits i).toArray⟩) ∧ w' = w := Any.internal_strconv_Itoa_small Tryd.lays243 i hi w
def Tryd.laysM171_ren : Go.Shelf.Ren := ⟨fun | 171 => 79 | 243 => 105 | 246 => 124 | 283 => 136 | 284 => 137 | 285 => 138 | 286 => 139 | 129 => 146 | 317 => 145 | 318 => 147 | 319 => 148 | 320 => 149 | 337 => 151 | 338 => 152 | n => n, fun | 3 => 3 | 9 => 9 | 2 => 2 | 4 => 4 | 171 => 147 | 0 => 0 | 53 => 148 | 37 => 127 | 5 => 5 | 173 => 151 | 212 => 155 | 51 => 156 | 20 => 20 | 213 => 157 | 46 => 158 | 232 => 164 | 233 => 165 | n => n, fun | 17 => 0 | 18 => 1 | 19 => 2 | n => n⟩
theorem Tryd.laysM171 : Go.Proofs.LaysM.n171 Tryd.prog Tryd.laysM171_ren := {
  mixed := by kernel_rfl
  f129 := Tryd.func146.trans (congrArg some (by kernel_rfl))
  f171 := Tryd.func79.trans (congrArg some (by kernel_rfl))
  f243 := Tryd.func105.trans (congrArg some (by kernel_rfl))
  f246 := Tryd.func124.trans (congrArg some (by kernel_rfl))
  f283 := Tryd.func136.trans (congrArg some (by kernel_rfl))
  f284 := Tryd.func137.trans (congrArg some (by kernel_rfl))
  f285 := Tryd.func138.trans (congrArg some (by kernel_rfl))
  f286 := Tryd.func139.trans (congrArg some (by kernel_rfl))
  f317 := Tryd.func145.trans (congrArg some (by kernel_rfl))
  f318 := Tryd.func147.trans (congrArg some (by kernel_rfl))
  f319 := Tryd.func148.trans (congrArg some (by kernel_rfl))
  f320 := Tryd.func149.trans (congrArg some (by kernel_rfl))
  f337 := Tryd.func151.trans (congrArg some (by kernel_rfl))
  f338 := Tryd.func152.trans (congrArg some (by kernel_rfl))
  t0 := Tryd.underlying0
  a0 := Tryd.isAgg0
  z0 := Tryd.sizeOf0
  v0 := Tryd.zeroValue0
  t2 := Tryd.underlying2
  a2 := Tryd.isAgg2
  z2 := Tryd.sizeOf2
  v2 := Tryd.zeroValue2
  t3 := Tryd.underlying3
  a3 := Tryd.isAgg3
  z3 := Tryd.sizeOf3
  v3 := Tryd.zeroValue3
  t4 := Tryd.underlying4
  a4 := Tryd.isAgg4
  z4 := Tryd.sizeOf4
  v4 := Tryd.zeroValue4
  t5 := Tryd.underlying5
  a5 := Tryd.isAgg5
  z5 := Tryd.sizeOf5
  v5 := Tryd.zeroValue5
  t9 := Tryd.underlying9
  a9 := Tryd.isAgg9
  z9 := Tryd.sizeOf9
  v9 := Tryd.zeroValue9
  t20 := Tryd.underlying20
  a20 := Tryd.isAgg20
  z20 := Tryd.sizeOf20
  v20 := Tryd.zeroValue20
  t37 := Tryd.underlying127
  a37 := Tryd.isAgg127
  z37 := Tryd.sizeOf127
  v37 := Tryd.zeroValue127
  t46 := Tryd.underlying158
  a46 := Tryd.isAgg158
  z46 := Tryd.sizeOf158
  v46 := Tryd.zeroValue158
  t51 := Tryd.underlying156
  a51 := Tryd.isAgg156
  z51 := Tryd.sizeOf156
  v51 := Tryd.zeroValue156
  t53 := Tryd.underlying148
  a53 := Tryd.isAgg148
  z53 := Tryd.sizeOf148
  v53 := Tryd.zeroValue148
  t171 := Tryd.underlying147
  a171 := Tryd.isAgg147
  z171 := Tryd.sizeOf147
  v171 := Tryd.zeroValue147
  t173 := Tryd.underlying151
  a173 := Tryd.isAgg151
  z173 := Tryd.sizeOf151
  v173 := Tryd.zeroValue151
  t212 := Tryd.underlying155
  a212 := Tryd.isAgg155
  z212 := Tryd.sizeOf155
  v212 := Tryd.zeroValue155
  t213 := Tryd.underlying157
  a213 := Tryd.isAgg157
  z213 := Tryd.sizeOf157
  t232 := Tryd.underlying164
  a232 := Tryd.isAgg164
  z232 := Tryd.sizeOf164
  v232 := Tryd.zeroValue164
  t233 := Tryd.underlying165
  a233 := Tryd.isAgg165
  z233 := Tryd.sizeOf165
  v233 := Tryd.zeroValue165
  g17 := by kernel_rfl
  g18 := by kernel_rfl
  g19 := by kernel_rfl
  i0 := by kernel_rfl
  i2 := by kernel_rfl
  i3 := by kernel_rfl
  i4 := by kernel_rfl
  i5 := by kernel_rfl
  i9 := by kernel_rfl
  i20 := by kernel_rfl
  i37 := by kernel_rfl
  i46 := by kernel_rfl
  i51 := by kernel_rfl
  i53 := by kernel_rfl
  i171 := by kernel_rfl
  i173 := by kernel_rfl
  i212 := by kernel_rfl
  i232 := by kernel_rfl
  i233 := by kernel_rfl
  m17 := by kernel_rfl
  m18 := by kernel_rfl
  m19 := by kernel_rfl }
open Go.RowKit Go.Sort Go.Lib in
/-- strconv.Itoa: "Itoa is equivalent to FormatInt(int64(i), 10).": i's DECIMAL NUMERAL ('Lib.itoa': a '-' where i is negative, then the digits), FOR EVERY int. The world behind the call: the world before it, new blocks behind the heap (the library's 'var a [24]byte'), draws. (LAID: no walk: one application.) -/
theorem Tryd.strconv_Itoa (n : Int) (h0 : -9223372036854775808 ≤ n) (h1 : n ≤ 9223372036854775807) (w : World) (htab : Lib.TabIs Tryd.prog w "internal/strconv.uint64pow10" .u64 Lib.pow10Tab) :
    Calls Tryd.prog 79 #[.int .i64 n] w fun e w' => e = .returned (.string ⟨(Lib.itoa n).toArray⟩) ∧ ∃ k os, w' = grow (w.drewN k) os := Any.strconv_Itoa Tryd.laysM171 n h0 h1 w htab
def Tryd.lays171_ren : Go.Shelf.Ren := ⟨fun | 171 => 79 | 243 => 105 | 246 => 124 | 283 => 136 | 284 => 137 | 285 => 138 | 286 => 139 | 129 => 146 | 317 => 145 | 318 => 147 | 319 => 148 | 320 => 149 | 337 => 151 | 338 => 152 | n => n, fun | 3 => 3 | 9 => 9 | 2 => 2 | 4 => 4 | 171 => 147 | 0 => 0 | 53 => 148 | 37 => 127 | 5 => 5 | 173 => 151 | 212 => 155 | 51 => 156 | 20 => 20 | 213 => 157 | 46 => 158 | 232 => 164 | 233 => 165 | n => n, fun | 17 => 0 | 18 => 1 | 19 => 2 | n => n⟩
theorem Tryd.lays171 : Go.Proofs.Lays.n171 Tryd.prog Tryd.lays171_ren := {
  mixed := by kernel_rfl
  f129 := Tryd.func146.trans (congrArg some (by kernel_rfl))
  f171 := Tryd.func79.trans (congrArg some (by kernel_rfl))
  f243 := Tryd.func105.trans (congrArg some (by kernel_rfl))
  f246 := Tryd.func124.trans (congrArg some (by kernel_rfl))
  f283 := Tryd.func136.trans (congrArg some (by kernel_rfl))
  f284 := Tryd.func137.trans (congrArg some (by kernel_rfl))
  f285 := Tryd.func138.trans (congrArg some (by kernel_rfl))
  f286 := Tryd.func139.trans (congrArg some (by kernel_rfl))
  f317 := Tryd.func145.trans (congrArg some (by kernel_rfl))
  f318 := Tryd.func147.trans (congrArg some (by kernel_rfl))
  f319 := Tryd.func148.trans (congrArg some (by kernel_rfl))
  f320 := Tryd.func149.trans (congrArg some (by kernel_rfl))
  f337 := Tryd.func151.trans (congrArg some (by kernel_rfl))
  f338 := Tryd.func152.trans (congrArg some (by kernel_rfl))
  t0 := Tryd.underlying0
  a0 := Tryd.isAgg0
  z0 := Tryd.sizeOf0
  v0 := Tryd.zeroValue0
  t2 := Tryd.underlying2
  a2 := Tryd.isAgg2
  z2 := Tryd.sizeOf2
  v2 := Tryd.zeroValue2
  t3 := Tryd.underlying3
  a3 := Tryd.isAgg3
  z3 := Tryd.sizeOf3
  v3 := Tryd.zeroValue3
  t4 := Tryd.underlying4
  a4 := Tryd.isAgg4
  z4 := Tryd.sizeOf4
  v4 := Tryd.zeroValue4
  t5 := Tryd.underlying5
  a5 := Tryd.isAgg5
  z5 := Tryd.sizeOf5
  v5 := Tryd.zeroValue5
  t9 := Tryd.underlying9
  a9 := Tryd.isAgg9
  z9 := Tryd.sizeOf9
  v9 := Tryd.zeroValue9
  t20 := Tryd.underlying20
  a20 := Tryd.isAgg20
  z20 := Tryd.sizeOf20
  v20 := Tryd.zeroValue20
  t37 := Tryd.underlying127
  a37 := Tryd.isAgg127
  z37 := Tryd.sizeOf127
  v37 := Tryd.zeroValue127
  t46 := Tryd.underlying158
  a46 := Tryd.isAgg158
  z46 := Tryd.sizeOf158
  v46 := Tryd.zeroValue158
  t51 := Tryd.underlying156
  a51 := Tryd.isAgg156
  z51 := Tryd.sizeOf156
  v51 := Tryd.zeroValue156
  t53 := Tryd.underlying148
  a53 := Tryd.isAgg148
  z53 := Tryd.sizeOf148
  v53 := Tryd.zeroValue148
  t171 := Tryd.underlying147
  a171 := Tryd.isAgg147
  z171 := Tryd.sizeOf147
  v171 := Tryd.zeroValue147
  t173 := Tryd.underlying151
  a173 := Tryd.isAgg151
  z173 := Tryd.sizeOf151
  v173 := Tryd.zeroValue151
  t212 := Tryd.underlying155
  a212 := Tryd.isAgg155
  z212 := Tryd.sizeOf155
  v212 := Tryd.zeroValue155
  t213 := Tryd.underlying157
  a213 := Tryd.isAgg157
  z213 := Tryd.sizeOf157
  t232 := Tryd.underlying164
  a232 := Tryd.isAgg164
  z232 := Tryd.sizeOf164
  v232 := Tryd.zeroValue164
  t233 := Tryd.underlying165
  a233 := Tryd.isAgg165
  z233 := Tryd.sizeOf165
  v233 := Tryd.zeroValue165
  g17 := by kernel_rfl
  g18 := by kernel_rfl
  g19 := by kernel_rfl }
open Go.RowKit Go.Sort Go.Lib in
/-- THE ROAD WITHOUT THE TABLE: 0 <= i < 100: NO PREMISE ON THE WORLD, AND THE WORLD IS AS IT WAS: a row that keeps its argument in that range need list no table ('laid = []'). (LAID: no walk: one application.) -/
theorem Tryd.strconv_Itoa_small (i : Nat) (hi : i < 100) (w : World) :
    Calls Tryd.prog 79 #[.int .i64 i] w fun e w' => e = .returned (.string ⟨(Lib.decDigits i).toArray⟩) ∧ w' = w := Any.strconv_Itoa_small Tryd.lays171 i hi w
def Tryd.lays217_ren : Go.Shelf.Ren := ⟨fun | 217 => 161 | 266 => 165 | n => n, fun | 9 => 9 | 5 => 5 | 3 => 3 | n => n, fun | n => n⟩
theorem Tryd.lays217 : Go.Proofs.Lays.n217 Tryd.prog Tryd.lays217_ren := {
  mixed := by kernel_rfl
  f217 := Tryd.func161.trans (congrArg some (by kernel_rfl))
  f266 := Tryd.func165.trans (congrArg some (by kernel_rfl))
  t3 := Tryd.underlying3
  a3 := Tryd.isAgg3
  z3 := Tryd.sizeOf3
  v3 := Tryd.zeroValue3
  t5 := Tryd.underlying5
  a5 := Tryd.isAgg5
  z5 := Tryd.sizeOf5
  v5 := Tryd.zeroValue5
  t9 := Tryd.underlying9
  a9 := Tryd.isAgg9
  z9 := Tryd.sizeOf9
  v9 := Tryd.zeroValue9 }
open Go.RowKit Go.Lib in
/-- internal/stringslite.IndexByte (what strings.IndexByte calls): IT RETURNS 'Lib.indexByte s c'; the world is as it was. (LAID: no walk: one application.) -/
theorem Tryd.stringslite_IndexByte (s : ByteArray) (c : Int) (w : World) :
    Calls Tryd.prog 161 #[.string s, .int .u8 c] w fun e w' => e = .returned (.int .i64 (Lib.indexByte s.data.toList c.toNat.toUInt8)) ∧ w' = w := Any.stringslite_IndexByte Tryd.lays217 s c w
def Tryd.lays224_ren : Go.Shelf.Ren := ⟨fun | 224 => 163 | n => n, fun | 3 => 3 | n => n, fun | n => n⟩
theorem Tryd.lays224 : Go.Proofs.Lays.n224 Tryd.prog Tryd.lays224_ren := {
  mixed := by kernel_rfl
  f224 := Tryd.func163.trans (congrArg some (by kernel_rfl))
  t3 := Tryd.underlying3
  a3 := Tryd.isAgg3
  z3 := Tryd.sizeOf3
  v3 := Tryd.zeroValue3 }
open Go.RowKit Go.Lib in
/-- internal/bytealg.Cutover: "Cutover reports the number of failures of IndexByte we should tolerate before switching over to Index. n is the number of bytes processed so far.": on amd64: (n + 16) / 8. (LAID: no walk: one application.) -/
theorem Tryd.bytealg_Cutover (n : Int) (h0 : 0 ≤ n) (h1 : n < 4611686018427387904) (w : World) :
    Calls Tryd.prog 163 #[.int .i64 n] w fun e w' => e = .returned (.int .i64 ((n + 16) / 8)) ∧ w' = w := Any.bytealg_Cutover Tryd.lays224 n h0 h1 w
def Tryd.lays314_ren : Go.Shelf.Ren := ⟨fun | 314 => 166 | n => n, fun | 9 => 9 | 51 => 156 | 3 => 3 | 4 => 4 | 5 => 5 | 46 => 158 | n => n, fun | n => n⟩
theorem Tryd.lays314 : Go.Proofs.Lays.n314 Tryd.prog Tryd.lays314_ren := {
  mixed := by kernel_rfl
  f314 := Tryd.func166.trans (congrArg some (by kernel_rfl))
  t3 := Tryd.underlying3
  a3 := Tryd.isAgg3
  z3 := Tryd.sizeOf3
  v3 := Tryd.zeroValue3
  t4 := Tryd.underlying4
  a4 := Tryd.isAgg4
  z4 := Tryd.sizeOf4
  v4 := Tryd.zeroValue4
  t5 := Tryd.underlying5
  a5 := Tryd.isAgg5
  z5 := Tryd.sizeOf5
  v5 := Tryd.zeroValue5
  t9 := Tryd.underlying9
  a9 := Tryd.isAgg9
  z9 := Tryd.sizeOf9
  v9 := Tryd.zeroValue9
  t46 := Tryd.underlying158
  a46 := Tryd.isAgg158
  z46 := Tryd.sizeOf158
  v46 := Tryd.zeroValue158
  t51 := Tryd.underlying156
  a51 := Tryd.isAgg156
  z51 := Tryd.sizeOf156
  v51 := Tryd.zeroValue156 }
open Go.RowKit Go.Lib in
/-- hashStr: "returns the hash and the appropriate multiplicative factor for use in Rabin-Karp algorithm": THE HASH OF ALL OF sep, AND 16777619 ^ len(sep), both in uint32. (LAID: no walk: one application.) -/
theorem Tryd.bytealg_hashStr (sep : ByteArray) (hs : sep.size < 4294967281) (w : World) :
    Calls Tryd.prog 166 #[.string sep] w fun e w' => e = .returned (.tuple #[.int .u32 (RK.H sep.data.toList % 4294967296), .int .u32 (16777619 ^ sep.size % 4294967296)]) ∧ w' = w := Any.bytealg_hashStr Tryd.lays314 sep hs w
def Tryd.lays267_ren : Go.Shelf.Ren := ⟨fun | 267 => 164 | 314 => 166 | n => n, fun | 9 => 9 | 3 => 3 | 146 => 174 | 51 => 156 | 4 => 4 | 5 => 5 | 46 => 158 | n => n, fun | n => n⟩
theorem Tryd.lays267 : Go.Proofs.Lays.n267 Tryd.prog Tryd.lays267_ren := {
  mixed := by kernel_rfl
  f267 := Tryd.func164.trans (congrArg some (by kernel_rfl))
  f314 := Tryd.func166.trans (congrArg some (by kernel_rfl))
  t3 := Tryd.underlying3
  a3 := Tryd.isAgg3
  z3 := Tryd.sizeOf3
  v3 := Tryd.zeroValue3
  t4 := Tryd.underlying4
  a4 := Tryd.isAgg4
  z4 := Tryd.sizeOf4
  v4 := Tryd.zeroValue4
  t5 := Tryd.underlying5
  a5 := Tryd.isAgg5
  z5 := Tryd.sizeOf5
  v5 := Tryd.zeroValue5
  t9 := Tryd.underlying9
  a9 := Tryd.isAgg9
  z9 := Tryd.sizeOf9
  v9 := Tryd.zeroValue9
  t46 := Tryd.underlying158
  a46 := Tryd.isAgg158
  z46 := Tryd.sizeOf158
  v46 := Tryd.zeroValue158
  t51 := Tryd.underlying156
  a51 := Tryd.isAgg156
  z51 := Tryd.sizeOf156
  v51 := Tryd.zeroValue156
  t146 := Tryd.underlying174
  a146 := Tryd.isAgg174
  z146 := Tryd.sizeOf174
  v146 := Tryd.zeroValue174 }
open Go.RowKit Go.Lib in
theorem Tryd.bytealg_IndexRabinKarp (s sep : ByteArray) (h1 : 1 ≤ sep.size) (h2 : sep.size ≤ s.size) (hs : s.size < 4294967281) (w : World) :
    Calls Tryd.prog 164 #[.string s, .string sep] w fun e w' => e = .returned (.int .i64 (Lib.index s.data.toList sep.data.toList)) ∧ w' = w := Any.bytealg_IndexRabinKarp Tryd.lays267 s sep h1 h2 hs w
def Tryd.lays219_ren : Go.Shelf.Ren := ⟨fun | 219 => 159 | 217 => 161 | 225 => 162 | 224 => 163 | 267 => 164 | 266 => 165 | 314 => 166 | n => n, fun | 9 => 9 | 3 => 3 | 4 => 4 | 5 => 5 | 46 => 158 | 146 => 174 | 51 => 156 | n => n, fun | 1 => 3 | n => n⟩
theorem Tryd.lays219 : Go.Proofs.Lays.n219 Tryd.prog Tryd.lays219_ren := {
  mixed := by kernel_rfl
  f217 := Tryd.func161.trans (congrArg some (by kernel_rfl))
  f219 := Tryd.func159.trans (congrArg some (by kernel_rfl))
  f224 := Tryd.func163.trans (congrArg some (by kernel_rfl))
  f225 := Tryd.func162.trans (congrArg some (by kernel_rfl))
  f266 := Tryd.func165.trans (congrArg some (by kernel_rfl))
  f267 := Tryd.func164.trans (congrArg some (by kernel_rfl))
  f314 := Tryd.func166.trans (congrArg some (by kernel_rfl))
  t3 := Tryd.underlying3
  a3 := Tryd.isAgg3
  z3 := Tryd.sizeOf3
  v3 := Tryd.zeroValue3
  t4 := Tryd.underlying4
  a4 := Tryd.isAgg4
  z4 := Tryd.sizeOf4
  v4 := Tryd.zeroValue4
  t5 := Tryd.underlying5
  a5 := Tryd.isAgg5
  z5 := Tryd.sizeOf5
  v5 := Tryd.zeroValue5
  t9 := Tryd.underlying9
  a9 := Tryd.isAgg9
  z9 := Tryd.sizeOf9
  v9 := Tryd.zeroValue9
  t46 := Tryd.underlying158
  a46 := Tryd.isAgg158
  z46 := Tryd.sizeOf158
  v46 := Tryd.zeroValue158
  t51 := Tryd.underlying156
  a51 := Tryd.isAgg156
  z51 := Tryd.sizeOf156
  v51 := Tryd.zeroValue156
  t146 := Tryd.underlying174
  a146 := Tryd.isAgg174
  z146 := Tryd.sizeOf174
  v146 := Tryd.zeroValue174
  g1 := by kernel_rfl }
open Go.RowKit Go.Lib in
/-- internal/stringslite.Index (what strings.Index calls) AT A substr OF ONE BYTE c: IT RETURNS 'Lib.indexByte s c'; the world is as it was. (LAID: no walk: one application.) -/
theorem Tryd.stringslite_Index_one (s : ByteArray) (c : UInt8) (w : World) :
    Calls Tryd.prog 159 #[.string s, .string ⟨#[c]⟩] w fun e w' => e = .returned (.int .i64 (Lib.indexByte s.data.toList c)) ∧ w' = w := Any.stringslite_Index_one Tryd.lays219 s c w
open Go.RowKit Go.Lib in
/-- internal/stringslite.Index (what strings.Index calls) AT A substr OF WHATEVER LENGTH: IT RETURNS 'Lib.index s substr'; the world is as it was. 'm': what internal/bytealg.MaxLen holds: whatever. (LAID: no walk: one application.) -/
theorem Tryd.stringslite_Index (s sub : ByteArray) (m : Int) (w : World) (hs : s.size < 4294967281) (hm : w.cell? ⟨3, 0, none⟩ = some (.int .i64 m)) :
    Calls Tryd.prog 159 #[.string s, .string sub] w fun e w' => e = .returned (.int .i64 (Lib.index s.data.toList sub.data.toList)) ∧ w' = w := Any.stringslite_Index Tryd.lays219 s sub m w hs hm
def Tryd.lays143_ren : Go.Shelf.Ren := ⟨fun | 143 => 155 | 219 => 159 | 217 => 161 | 225 => 162 | 224 => 163 | 267 => 164 | 266 => 165 | 314 => 166 | n => n, fun | 9 => 9 | 3 => 3 | 4 => 4 | 5 => 5 | 46 => 158 | 146 => 174 | 51 => 156 | n => n, fun | 1 => 3 | n => n⟩
theorem Tryd.lays143 : Go.Proofs.Lays.n143 Tryd.prog Tryd.lays143_ren := {
  mixed := by kernel_rfl
  f143 := Tryd.func155.trans (congrArg some (by kernel_rfl))
  f217 := Tryd.func161.trans (congrArg some (by kernel_rfl))
  f219 := Tryd.func159.trans (congrArg some (by kernel_rfl))
  f224 := Tryd.func163.trans (congrArg some (by kernel_rfl))
  f225 := Tryd.func162.trans (congrArg some (by kernel_rfl))
  f266 := Tryd.func165.trans (congrArg some (by kernel_rfl))
  f267 := Tryd.func164.trans (congrArg some (by kernel_rfl))
  f314 := Tryd.func166.trans (congrArg some (by kernel_rfl))
  t3 := Tryd.underlying3
  a3 := Tryd.isAgg3
  z3 := Tryd.sizeOf3
  v3 := Tryd.zeroValue3
  t4 := Tryd.underlying4
  a4 := Tryd.isAgg4
  z4 := Tryd.sizeOf4
  v4 := Tryd.zeroValue4
  t5 := Tryd.underlying5
  a5 := Tryd.isAgg5
  z5 := Tryd.sizeOf5
  v5 := Tryd.zeroValue5
  t9 := Tryd.underlying9
  a9 := Tryd.isAgg9
  z9 := Tryd.sizeOf9
  v9 := Tryd.zeroValue9
  t46 := Tryd.underlying158
  a46 := Tryd.isAgg158
  z46 := Tryd.sizeOf158
  v46 := Tryd.zeroValue158
  t51 := Tryd.underlying156
  a51 := Tryd.isAgg156
  z51 := Tryd.sizeOf156
  v51 := Tryd.zeroValue156
  t146 := Tryd.underlying174
  a146 := Tryd.isAgg174
  z146 := Tryd.sizeOf174
  v146 := Tryd.zeroValue174
  g1 := by kernel_rfl }
open Go.RowKit Go.Lib in
/-- strings.Index: "Index returns the index of the first instance of substr in s, or -1 if substr is not present in s.": AT A substr OF ONE BYTE c: IT RETURNS 'Lib.indexByte s c'; the world is as it was. (LAID: no walk: one application.) -/
theorem Tryd.strings_Index_one (s : ByteArray) (c : UInt8) (w : World) :
    Calls Tryd.prog 155 #[.string s, .string ⟨#[c]⟩] w fun e w' => e = .returned (.int .i64 (Lib.indexByte s.data.toList c)) ∧ w' = w := Any.strings_Index_one Tryd.lays143 s c w
open Go.RowKit Go.Lib in
/-- strings.Index: "Index returns the index of the first instance of substr in s, or -1 if substr is not present in s.": IT RETURNS 'Lib.index s substr'; the world is as it was. (LAID: no walk: one application.) -/
theorem Tryd.strings_Index (s sub : ByteArray) (m : Int) (w : World) (hs : s.size < 4294967281) (hm : w.cell? ⟨3, 0, none⟩ = some (.int .i64 m)) :
    Calls Tryd.prog 155 #[.string s, .string sub] w fun e w' => e = .returned (.int .i64 (Lib.index s.data.toList sub.data.toList)) ∧ w' = w := Any.strings_Index Tryd.lays143 s sub m w hs hm
def Tryd.lays138_ren : Go.Shelf.Ren := ⟨fun | 138 => 154 | 195 => 156 | 218 => 158 | 143 => 155 | 219 => 159 | 217 => 161 | 225 => 162 | 224 => 163 | 267 => 164 | 266 => 165 | 314 => 166 | n => n, fun | 9 => 9 | 3 => 3 | 4 => 4 | 5 => 5 | 0 => 0 | 46 => 158 | 146 => 174 | 51 => 156 | n => n, fun | 1 => 3 | n => n⟩
theorem Tryd.lays138 : Go.Proofs.Lays.n138 Tryd.prog Tryd.lays138_ren := {
  mixed := by kernel_rfl
  f138 := Tryd.func154.trans (congrArg some (by kernel_rfl))
  f143 := Tryd.func155.trans (congrArg some (by kernel_rfl))
  f195 := Tryd.func156.trans (congrArg some (by kernel_rfl))
  f217 := Tryd.func161.trans (congrArg some (by kernel_rfl))
  f218 := Tryd.func158.trans (congrArg some (by kernel_rfl))
  f219 := Tryd.func159.trans (congrArg some (by kernel_rfl))
  f224 := Tryd.func163.trans (congrArg some (by kernel_rfl))
  f225 := Tryd.func162.trans (congrArg some (by kernel_rfl))
  f266 := Tryd.func165.trans (congrArg some (by kernel_rfl))
  f267 := Tryd.func164.trans (congrArg some (by kernel_rfl))
  f314 := Tryd.func166.trans (congrArg some (by kernel_rfl))
  t0 := Tryd.underlying0
  a0 := Tryd.isAgg0
  z0 := Tryd.sizeOf0
  v0 := Tryd.zeroValue0
  t3 := Tryd.underlying3
  a3 := Tryd.isAgg3
  z3 := Tryd.sizeOf3
  v3 := Tryd.zeroValue3
  t4 := Tryd.underlying4
  a4 := Tryd.isAgg4
  z4 := Tryd.sizeOf4
  v4 := Tryd.zeroValue4
  t5 := Tryd.underlying5
  a5 := Tryd.isAgg5
  z5 := Tryd.sizeOf5
  v5 := Tryd.zeroValue5
  t9 := Tryd.underlying9
  a9 := Tryd.isAgg9
  z9 := Tryd.sizeOf9
  v9 := Tryd.zeroValue9
  t46 := Tryd.underlying158
  a46 := Tryd.isAgg158
  z46 := Tryd.sizeOf158
  v46 := Tryd.zeroValue158
  t51 := Tryd.underlying156
  a51 := Tryd.isAgg156
  z51 := Tryd.sizeOf156
  v51 := Tryd.zeroValue156
  t146 := Tryd.underlying174
  a146 := Tryd.isAgg174
  z146 := Tryd.sizeOf174
  v146 := Tryd.zeroValue174
  g1 := by kernel_rfl }
open Go.RowKit Go.Lib in
/-- strings.Count AT A substr OF ONE BYTE ('hp'): "Count counts the number of non-overlapping instances of substr in s.": IT RETURNS 'Lib.countByte s (that byte)'; the world is as it was. ✋ NO CONTRACT HERE YET at an empty substr (utf8.RuneCountInString) or at a longer one (a loop over strings.Index). (LAID: no walk: one application.) -/
theorem Tryd.strings_Count_one (s : ByteArray) (c : UInt8) (w : World) :
    Calls Tryd.prog 154 #[.string s, .string ⟨#[c]⟩] w fun e w' => e = .returned (.int .i64 (Lib.countByte s.data.toList c)) ∧ w' = w := Any.strings_Count_one Tryd.lays138 s c w
open Go.RowKit Go.Lib in
/-- strings.Count AT A substr OF TWO BYTES OR MORE: "Count counts the number of non-overlapping instances of substr in s.": IT RETURNS 'Lib.count s substr'; the world is as it was. (LAID: no walk: one application.) -/
theorem Tryd.strings_Count (s sub : ByteArray) (m : Int) (w : World) (hs : s.size < 4294967281) (hm : w.cell? ⟨3, 0, none⟩ = some (.int .i64 m)) (h2 : 2 ≤ sub.size) :
    Calls Tryd.prog 154 #[.string s, .string sub] w fun e w' => e = .returned (.int .i64 (Lib.countB s sub)) ∧ w' = w := Any.strings_Count Tryd.lays138 s sub m w hs hm h2
def Tryd.laysM219_ren : Go.Shelf.Ren := ⟨fun | 219 => 159 | 217 => 161 | 225 => 162 | 224 => 163 | 267 => 164 | 266 => 165 | 314 => 166 | n => n, fun | 9 => 9 | 3 => 3 | 4 => 4 | 5 => 5 | 46 => 158 | 146 => 174 | 51 => 156 | n => n, fun | 1 => 3 | n => n⟩
theorem Tryd.laysM219 : Go.Proofs.LaysM.n219 Tryd.prog Tryd.laysM219_ren := {
  mixed := by kernel_rfl
  f217 := Tryd.func161.trans (congrArg some (by kernel_rfl))
  f219 := Tryd.func159.trans (congrArg some (by kernel_rfl))
  f224 := Tryd.func163.trans (congrArg some (by kernel_rfl))
  f225 := Tryd.func162.trans (congrArg some (by kernel_rfl))
  f266 := Tryd.func165.trans (congrArg some (by kernel_rfl))
  f267 := Tryd.func164.trans (congrArg some (by kernel_rfl))
  f314 := Tryd.func166.trans (congrArg some (by kernel_rfl))
  t3 := Tryd.underlying3
  a3 := Tryd.isAgg3
  z3 := Tryd.sizeOf3
  v3 := Tryd.zeroValue3
  t4 := Tryd.underlying4
  a4 := Tryd.isAgg4
  z4 := Tryd.sizeOf4
  v4 := Tryd.zeroValue4
  t5 := Tryd.underlying5
  a5 := Tryd.isAgg5
  z5 := Tryd.sizeOf5
  v5 := Tryd.zeroValue5
  t9 := Tryd.underlying9
  a9 := Tryd.isAgg9
  z9 := Tryd.sizeOf9
  v9 := Tryd.zeroValue9
  t46 := Tryd.underlying158
  a46 := Tryd.isAgg158
  z46 := Tryd.sizeOf158
  v46 := Tryd.zeroValue158
  t51 := Tryd.underlying156
  a51 := Tryd.isAgg156
  z51 := Tryd.sizeOf156
  v51 := Tryd.zeroValue156
  t146 := Tryd.underlying174
  a146 := Tryd.isAgg174
  z146 := Tryd.sizeOf174
  v146 := Tryd.zeroValue174
  g1 := by kernel_rfl
  i3 := by kernel_rfl
  i4 := by kernel_rfl
  i5 := by kernel_rfl
  i9 := by kernel_rfl
  i46 := by kernel_rfl
  i51 := by kernel_rfl
  i146 := by kernel_rfl
  m1 := by kernel_rfl
  s1_3 := fun w h => Go.Proofs.cell_of_shapedOpen_int (zero := #[.int .i64 0]) (t := 3) h (of_decide_eq_true (by kernel_rfl)) (by kernel_rfl) rfl (by kernel_rfl) (by kernel_rfl) Tryd.underlying3 }
open Go.RowKit Go.Lib in
theorem Tryd.stringslite_Index_shaped (s sub : ByteArray) (w : World) (h : w.ShapedOpen Tryd.prog) (hs : s.size < 4294967281) :
    Calls Tryd.prog 159 #[.string s, .string sub] w fun e w' => e = .returned (.int .i64 (Lib.index s.data.toList sub.data.toList)) ∧ w' = w := Any.stringslite_Index_shaped Tryd.laysM219 s sub w h hs
def Tryd.laysM143_ren : Go.Shelf.Ren := ⟨fun | 143 => 155 | 219 => 159 | 217 => 161 | 225 => 162 | 224 => 163 | 267 => 164 | 266 => 165 | 314 => 166 | n => n, fun | 9 => 9 | 3 => 3 | 4 => 4 | 5 => 5 | 46 => 158 | 146 => 174 | 51 => 156 | n => n, fun | 1 => 3 | n => n⟩
theorem Tryd.laysM143 : Go.Proofs.LaysM.n143 Tryd.prog Tryd.laysM143_ren := {
  mixed := by kernel_rfl
  f143 := Tryd.func155.trans (congrArg some (by kernel_rfl))
  f217 := Tryd.func161.trans (congrArg some (by kernel_rfl))
  f219 := Tryd.func159.trans (congrArg some (by kernel_rfl))
  f224 := Tryd.func163.trans (congrArg some (by kernel_rfl))
  f225 := Tryd.func162.trans (congrArg some (by kernel_rfl))
  f266 := Tryd.func165.trans (congrArg some (by kernel_rfl))
  f267 := Tryd.func164.trans (congrArg some (by kernel_rfl))
  f314 := Tryd.func166.trans (congrArg some (by kernel_rfl))
  t3 := Tryd.underlying3
  a3 := Tryd.isAgg3
  z3 := Tryd.sizeOf3
  v3 := Tryd.zeroValue3
  t4 := Tryd.underlying4
  a4 := Tryd.isAgg4
  z4 := Tryd.sizeOf4
  v4 := Tryd.zeroValue4
  t5 := Tryd.underlying5
  a5 := Tryd.isAgg5
  z5 := Tryd.sizeOf5
  v5 := Tryd.zeroValue5
  t9 := Tryd.underlying9
  a9 := Tryd.isAgg9
  z9 := Tryd.sizeOf9
  v9 := Tryd.zeroValue9
  t46 := Tryd.underlying158
  a46 := Tryd.isAgg158
  z46 := Tryd.sizeOf158
  v46 := Tryd.zeroValue158
  t51 := Tryd.underlying156
  a51 := Tryd.isAgg156
  z51 := Tryd.sizeOf156
  v51 := Tryd.zeroValue156
  t146 := Tryd.underlying174
  a146 := Tryd.isAgg174
  z146 := Tryd.sizeOf174
  v146 := Tryd.zeroValue174
  g1 := by kernel_rfl
  i3 := by kernel_rfl
  i4 := by kernel_rfl
  i5 := by kernel_rfl
  i9 := by kernel_rfl
  i46 := by kernel_rfl
  i51 := by kernel_rfl
  i146 := by kernel_rfl
  m1 := by kernel_rfl
  s1_3 := fun w h => Go.Proofs.cell_of_shapedOpen_int (zero := #[.int .i64 0]) (t := 3) h (of_decide_eq_true (by kernel_rfl)) (by kernel_rfl) rfl (by kernel_rfl) (by kernel_rfl) Tryd.underlying3 }
open Go.RowKit Go.Lib in
theorem Tryd.strings_Index_shaped (s sub : ByteArray) (w : World) (h : w.ShapedOpen Tryd.prog) (hs : s.size < 4294967281) :
    Calls Tryd.prog 155 #[.string s, .string sub] w fun e w' => e = .returned (.int .i64 (Lib.index s.data.toList sub.data.toList)) ∧ w' = w := Any.strings_Index_shaped Tryd.laysM143 s sub w h hs
def Tryd.laysM138_ren : Go.Shelf.Ren := ⟨fun | 138 => 154 | 195 => 156 | 218 => 158 | 143 => 155 | 219 => 159 | 217 => 161 | 225 => 162 | 224 => 163 | 267 => 164 | 266 => 165 | 314 => 166 | n => n, fun | 9 => 9 | 3 => 3 | 4 => 4 | 5 => 5 | 0 => 0 | 46 => 158 | 146 => 174 | 51 => 156 | n => n, fun | 1 => 3 | n => n⟩
theorem Tryd.laysM138 : Go.Proofs.LaysM.n138 Tryd.prog Tryd.laysM138_ren := {
  mixed := by kernel_rfl
  f138 := Tryd.func154.trans (congrArg some (by kernel_rfl))
  f143 := Tryd.func155.trans (congrArg some (by kernel_rfl))
  f195 := Tryd.func156.trans (congrArg some (by kernel_rfl))
  f217 := Tryd.func161.trans (congrArg some (by kernel_rfl))
  f218 := Tryd.func158.trans (congrArg some (by kernel_rfl))
  f219 := Tryd.func159.trans (congrArg some (by kernel_rfl))
  f224 := Tryd.func163.trans (congrArg some (by kernel_rfl))
  f225 := Tryd.func162.trans (congrArg some (by kernel_rfl))
  f266 := Tryd.func165.trans (congrArg some (by kernel_rfl))
  f267 := Tryd.func164.trans (congrArg some (by kernel_rfl))
  f314 := Tryd.func166.trans (congrArg some (by kernel_rfl))
  t0 := Tryd.underlying0
  a0 := Tryd.isAgg0
  z0 := Tryd.sizeOf0
  v0 := Tryd.zeroValue0
  t3 := Tryd.underlying3
  a3 := Tryd.isAgg3
  z3 := Tryd.sizeOf3
  v3 := Tryd.zeroValue3
  t4 := Tryd.underlying4
  a4 := Tryd.isAgg4
  z4 := Tryd.sizeOf4
  v4 := Tryd.zeroValue4
  t5 := Tryd.underlying5
  a5 := Tryd.isAgg5
  z5 := Tryd.sizeOf5
  v5 := Tryd.zeroValue5
  t9 := Tryd.underlying9
  a9 := Tryd.isAgg9
  z9 := Tryd.sizeOf9
  v9 := Tryd.zeroValue9
  t46 := Tryd.underlying158
  a46 := Tryd.isAgg158
  z46 := Tryd.sizeOf158
  v46 := Tryd.zeroValue158
  t51 := Tryd.underlying156
  a51 := Tryd.isAgg156
  z51 := Tryd.sizeOf156
  v51 := Tryd.zeroValue156
  t146 := Tryd.underlying174
  a146 := Tryd.isAgg174
  z146 := Tryd.sizeOf174
  v146 := Tryd.zeroValue174
  g1 := by kernel_rfl
  i0 := by kernel_rfl
  i3 := by kernel_rfl
  i4 := by kernel_rfl
  i5 := by kernel_rfl
  i9 := by kernel_rfl
  i46 := by kernel_rfl
  i51 := by kernel_rfl
  i146 := by kernel_rfl
  m1 := by kernel_rfl
  s1_3 := fun w h => Go.Proofs.cell_of_shapedOpen_int (zero := #[.int .i64 0]) (t := 3) h (of_decide_eq_true (by kernel_rfl)) (by kernel_rfl) rfl (by kernel_rfl) (by kernel_rfl) Tryd.underlying3 }
open Go.RowKit Go.Lib in
theorem Tryd.strings_Count_shaped (s sub : ByteArray) (w : World) (h : w.ShapedOpen Tryd.prog) (hs : s.size < 4294967281) (h2 : 2 ≤ sub.size) :
    Calls Tryd.prog 154 #[.string s, .string sub] w fun e w' => e = .returned (.int .i64 (Lib.countB s sub)) ∧ w' = w := Any.strings_Count_shaped Tryd.laysM138 s sub w h hs h2
open Go.RowKit Go.Lib in
/-- strings.Count at whatever sep that is not empty: the two roads under one statement. (LAID: no walk: one application.) -/
theorem Tryd.strings_Count_any (s sep : ByteArray) (m : Int) (w : World) (hs : s.size < 4294967281) (hm : w.cell? ⟨3, 0, none⟩ = some (.int .i64 m)) (h1 : 1 ≤ sep.size) :
    Calls Tryd.prog 154 #[.string s, .string sep] w fun e w' => e = .returned (.int .i64 (Lib.countB s sep)) ∧ w' = w := Any.strings_Count_any Tryd.lays138 s sep m w hs hm h1
def Tryd.lays221_ren : Go.Shelf.Ren := ⟨fun | 221 => 150 | 268 => 153 | 138 => 154 | 143 => 155 | 195 => 156 | 197 => 157 | 218 => 158 | 219 => 159 | 260 => 160 | 217 => 161 | 225 => 162 | 224 => 163 | 267 => 164 | 266 => 165 | 314 => 166 | n => n, fun | 9 => 9 | 3 => 3 | 31 => 136 | 4 => 4 | 0 => 0 | 105 => 167 | 21 => 21 | 5 => 5 | 46 => 158 | 119 => 170 | 139 => 173 | 138 => 172 | 146 => 174 | 51 => 156 | n => n, fun | 1 => 3 | 3 => 4 | 4 => 5 | n => n⟩
theorem Tryd.lays221 : Go.Proofs.Lays.n221 Tryd.prog Tryd.lays221_ren := {
  mixed := by kernel_rfl
  f138 := Tryd.func154.trans (congrArg some (by kernel_rfl))
  f143 := Tryd.func155.trans (congrArg some (by kernel_rfl))
  f195 := Tryd.func156.trans (congrArg some (by kernel_rfl))
  f197 := Tryd.func157.trans (congrArg some (by kernel_rfl))
  f217 := Tryd.func161.trans (congrArg some (by kernel_rfl))
  f218 := Tryd.func158.trans (congrArg some (by kernel_rfl))
  f219 := Tryd.func159.trans (congrArg some (by kernel_rfl))
  f221 := Tryd.func150.trans (congrArg some (by kernel_rfl))
  f224 := Tryd.func163.trans (congrArg some (by kernel_rfl))
  f225 := Tryd.func162.trans (congrArg some (by kernel_rfl))
  f260 := Tryd.func160.trans (congrArg some (by kernel_rfl))
  f266 := Tryd.func165.trans (congrArg some (by kernel_rfl))
  f267 := Tryd.func164.trans (congrArg some (by kernel_rfl))
  f268 := Tryd.func153.trans (congrArg some (by kernel_rfl))
  f314 := Tryd.func166.trans (congrArg some (by kernel_rfl))
  t0 := Tryd.underlying0
  a0 := Tryd.isAgg0
  z0 := Tryd.sizeOf0
  v0 := Tryd.zeroValue0
  t3 := Tryd.underlying3
  a3 := Tryd.isAgg3
  z3 := Tryd.sizeOf3
  v3 := Tryd.zeroValue3
  t4 := Tryd.underlying4
  a4 := Tryd.isAgg4
  z4 := Tryd.sizeOf4
  v4 := Tryd.zeroValue4
  t5 := Tryd.underlying5
  a5 := Tryd.isAgg5
  z5 := Tryd.sizeOf5
  v5 := Tryd.zeroValue5
  t9 := Tryd.underlying9
  a9 := Tryd.isAgg9
  z9 := Tryd.sizeOf9
  v9 := Tryd.zeroValue9
  t21 := Tryd.underlying21
  a21 := Tryd.isAgg21
  z21 := Tryd.sizeOf21
  v21 := Tryd.zeroValue21
  t31 := Tryd.underlying136
  a31 := Tryd.isAgg136
  z31 := Tryd.sizeOf136
  v31 := Tryd.zeroValue136
  t46 := Tryd.underlying158
  a46 := Tryd.isAgg158
  z46 := Tryd.sizeOf158
  v46 := Tryd.zeroValue158
  t51 := Tryd.underlying156
  a51 := Tryd.isAgg156
  z51 := Tryd.sizeOf156
  v51 := Tryd.zeroValue156
  t105 := Tryd.underlying167
  a105 := Tryd.isAgg167
  z105 := Tryd.sizeOf167
  v105 := Tryd.zeroValue167
  t119 := Tryd.underlying170
  a119 := Tryd.isAgg170
  z119 := Tryd.sizeOf170
  t138 := Tryd.underlying172
  a138 := Tryd.isAgg172
  z138 := Tryd.sizeOf172
  v138 := Tryd.zeroValue172
  t139 := Tryd.underlying173
  a139 := Tryd.isAgg173
  z139 := Tryd.sizeOf173
  v139 := Tryd.zeroValue173
  t146 := Tryd.underlying174
  a146 := Tryd.isAgg174
  z146 := Tryd.sizeOf174
  v146 := Tryd.zeroValue174
  g1 := by kernel_rfl
  g3 := by kernel_rfl
  g4 := by kernel_rfl }
open Go.RowKit Go.Lib in
theorem Tryd.strings_genSplit (s sep : ByteArray) (sv : Nat) (n : Int) (N : Nat) (m : Int) (w : World) (hs : s.size < 4294967281) (hm : w.cell? ⟨3, 0, none⟩ = some (.int .i64 m)) (h1 : 1 ≤ sep.size) (hsv : sv ≤ sep.size) (hn0 : n ≠ 0) (hn63 : n ≤ 9223372036854775807) (hN : (N : Int) = min (if n < 0 then (Lib.countB s sep : Int) + 1 else n) ((s.size : Int) + 1)) :
    Calls Tryd.prog 150 #[.string s, .string sep, .int .i64 sv, .int .i64 n] w fun e w' =>
      e = .returned (.slice (some ⟨w.heap.size, 0, none⟩) (Lib.splitB sep sv (N - 1) s).length N) ∧ w' = w.alloc (.cells (Lib.cellsOf (Lib.splitB sep sv (N - 1) s) N) 9) := Any.strings_genSplit Tryd.lays221 (by kernel_rfl) s sep sv n N m w hs hm h1 hsv hn0 hn63 hN
def Tryd.lays146_ren : Go.Shelf.Ren := ⟨fun | 146 => 140 | 221 => 150 | 268 => 153 | 138 => 154 | 143 => 155 | 195 => 156 | 197 => 157 | 218 => 158 | 219 => 159 | 260 => 160 | 217 => 161 | 225 => 162 | 224 => 163 | 267 => 164 | 266 => 165 | 314 => 166 | n => n, fun | 9 => 9 | 31 => 136 | 3 => 3 | 4 => 4 | 0 => 0 | 105 => 167 | 21 => 21 | 5 => 5 | 46 => 158 | 119 => 170 | 139 => 173 | 138 => 172 | 146 => 174 | 51 => 156 | n => n, fun | 1 => 3 | 3 => 4 | 4 => 5 | n => n⟩
theorem Tryd.lays146 : Go.Proofs.Lays.n146 Tryd.prog Tryd.lays146_ren := {
  mixed := by kernel_rfl
  f138 := Tryd.func154.trans (congrArg some (by kernel_rfl))
  f143 := Tryd.func155.trans (congrArg some (by kernel_rfl))
  f146 := Tryd.func140.trans (congrArg some (by kernel_rfl))
  f195 := Tryd.func156.trans (congrArg some (by kernel_rfl))
  f197 := Tryd.func157.trans (congrArg some (by kernel_rfl))
  f217 := Tryd.func161.trans (congrArg some (by kernel_rfl))
  f218 := Tryd.func158.trans (congrArg some (by kernel_rfl))
  f219 := Tryd.func159.trans (congrArg some (by kernel_rfl))
  f221 := Tryd.func150.trans (congrArg some (by kernel_rfl))
  f224 := Tryd.func163.trans (congrArg some (by kernel_rfl))
  f225 := Tryd.func162.trans (congrArg some (by kernel_rfl))
  f260 := Tryd.func160.trans (congrArg some (by kernel_rfl))
  f266 := Tryd.func165.trans (congrArg some (by kernel_rfl))
  f267 := Tryd.func164.trans (congrArg some (by kernel_rfl))
  f268 := Tryd.func153.trans (congrArg some (by kernel_rfl))
  f314 := Tryd.func166.trans (congrArg some (by kernel_rfl))
  t0 := Tryd.underlying0
  a0 := Tryd.isAgg0
  z0 := Tryd.sizeOf0
  v0 := Tryd.zeroValue0
  t3 := Tryd.underlying3
  a3 := Tryd.isAgg3
  z3 := Tryd.sizeOf3
  v3 := Tryd.zeroValue3
  t4 := Tryd.underlying4
  a4 := Tryd.isAgg4
  z4 := Tryd.sizeOf4
  v4 := Tryd.zeroValue4
  t5 := Tryd.underlying5
  a5 := Tryd.isAgg5
  z5 := Tryd.sizeOf5
  v5 := Tryd.zeroValue5
  t9 := Tryd.underlying9
  a9 := Tryd.isAgg9
  z9 := Tryd.sizeOf9
  v9 := Tryd.zeroValue9
  t21 := Tryd.underlying21
  a21 := Tryd.isAgg21
  z21 := Tryd.sizeOf21
  v21 := Tryd.zeroValue21
  t31 := Tryd.underlying136
  a31 := Tryd.isAgg136
  z31 := Tryd.sizeOf136
  v31 := Tryd.zeroValue136
  t46 := Tryd.underlying158
  a46 := Tryd.isAgg158
  z46 := Tryd.sizeOf158
  v46 := Tryd.zeroValue158
  t51 := Tryd.underlying156
  a51 := Tryd.isAgg156
  z51 := Tryd.sizeOf156
  v51 := Tryd.zeroValue156
  t105 := Tryd.underlying167
  a105 := Tryd.isAgg167
  z105 := Tryd.sizeOf167
  v105 := Tryd.zeroValue167
  t119 := Tryd.underlying170
  a119 := Tryd.isAgg170
  z119 := Tryd.sizeOf170
  t138 := Tryd.underlying172
  a138 := Tryd.isAgg172
  z138 := Tryd.sizeOf172
  v138 := Tryd.zeroValue172
  t139 := Tryd.underlying173
  a139 := Tryd.isAgg173
  z139 := Tryd.sizeOf173
  v139 := Tryd.zeroValue173
  t146 := Tryd.underlying174
  a146 := Tryd.isAgg174
  z146 := Tryd.sizeOf174
  v146 := Tryd.zeroValue174
  g1 := by kernel_rfl
  g3 := by kernel_rfl
  g4 := by kernel_rfl }
open Go.RowKit Go.Lib in
/-- strings.Split. (LAID: no walk: one application.) -/
theorem Tryd.strings_Split (s sep : ByteArray) (m : Int) (w : World) (hs : s.size < 4294967281) (hm : w.cell? ⟨3, 0, none⟩ = some (.int .i64 m)) (h1 : 1 ≤ sep.size) :
    Calls Tryd.prog 140 #[.string s, .string sep] w fun e w' =>
      e = .returned (.slice (some ⟨w.heap.size, 0, none⟩) (Lib.countB s sep + 1) (Lib.countB s sep + 1)) ∧ w' = w.alloc (.cells ((Lib.splitB sep 0 (Lib.countB s sep) s).map Value.string).toArray 9) := Any.strings_Split Tryd.lays146 (by kernel_rfl) s sep m w hs hm h1
def Tryd.lays260_ren : Go.Shelf.Ren := ⟨fun | 260 => 160 | n => n, fun | 9 => 9 | 21 => 21 | 3 => 3 | 4 => 4 | 5 => 5 | 119 => 170 | 0 => 0 | 46 => 158 | 139 => 173 | 138 => 172 | n => n, fun | 3 => 4 | 4 => 5 | n => n⟩
theorem Tryd.lays260 : Go.Proofs.Lays.n260 Tryd.prog Tryd.lays260_ren := {
  mixed := by kernel_rfl
  f260 := Tryd.func160.trans (congrArg some (by kernel_rfl))
  t0 := Tryd.underlying0
  a0 := Tryd.isAgg0
  z0 := Tryd.sizeOf0
  v0 := Tryd.zeroValue0
  t3 := Tryd.underlying3
  a3 := Tryd.isAgg3
  z3 := Tryd.sizeOf3
  v3 := Tryd.zeroValue3
  t4 := Tryd.underlying4
  a4 := Tryd.isAgg4
  z4 := Tryd.sizeOf4
  v4 := Tryd.zeroValue4
  t5 := Tryd.underlying5
  a5 := Tryd.isAgg5
  z5 := Tryd.sizeOf5
  v5 := Tryd.zeroValue5
  t9 := Tryd.underlying9
  a9 := Tryd.isAgg9
  z9 := Tryd.sizeOf9
  v9 := Tryd.zeroValue9
  t21 := Tryd.underlying21
  a21 := Tryd.isAgg21
  z21 := Tryd.sizeOf21
  v21 := Tryd.zeroValue21
  t46 := Tryd.underlying158
  a46 := Tryd.isAgg158
  z46 := Tryd.sizeOf158
  v46 := Tryd.zeroValue158
  t119 := Tryd.underlying170
  a119 := Tryd.isAgg170
  z119 := Tryd.sizeOf170
  t138 := Tryd.underlying172
  a138 := Tryd.isAgg172
  z138 := Tryd.sizeOf172
  v138 := Tryd.zeroValue172
  t139 := Tryd.underlying173
  a139 := Tryd.isAgg173
  z139 := Tryd.sizeOf173
  v139 := Tryd.zeroValue173
  g3 := by kernel_rfl
  g4 := by kernel_rfl }
open Go.RowKit Go.Lib in
theorem Tryd.utf8_decodeRuneInStringSlow (s : ByteArray) (w : World) (hT : Lib.Utf8Tabs 4 5 w) :
    Calls Tryd.prog 160 #[.string s] w fun e w' => e = .returned (.tuple #[.int .i32 (Lib.decodeGo s).1, .int .i64 (Lib.decodeGo s).2]) ∧ Below w.heap.size w w' := Any.utf8_decodeRuneInStringSlow Tryd.lays260 s w hT
end Go.Proofs
set_option linter.unusedVariables false
set_option linter.unusedSimpArgs false
namespace Go.Proofs.T
open Go.OM
theorem ent140 : Enters E.P 140 := enters_of Tryd.func140 (by simp [Tryd.f140]) rfl
theorem maxLen_cell {w : World} (h : E.Gl w) : ∃ m, w.cell? ⟨3, 0, none⟩ = some (.int .i64 m) := by
  obtain ⟨cs, t, fr, h1, m, h2⟩ := h _ (List.mem_singleton.2 rfl)
  refine ⟨m, ?_⟩
  have h1' : w.heap[3]? = some (.cells cs t fr) := h1
  simp [World.cell?, h1', h2]
theorem strings_Split_ok (s sep : ByteArray) {r0 : List ByteArray} (h : strings_Split s sep = some r0) : Ok E 140 [.val (vs s), .val (vs sep)] [.sl true 1 (List.map vs r0)] [] := by
  unfold strings_Split at h
  split at h
  case isFalse => cases h
  rename_i hr
  injection h with h
  subst h
  have := ok_fresh (E := E) (f := 140) (ty := 9) (xs := [.string s, .string sep]) (es := (Lib.splitB sep 0 (Lib.countB s sep) s).map Value.string) (by simp [TA.OneCell]) fun w hw => by
    obtain ⟨m, hm⟩ := maxLen_cell hw
    have h1 := Tryd.strings_Split s sep m w hr.1 hm hr.2.1
    refine h1.mono fun e w' ⟨h2, h3⟩ => ⟨?_, h3⟩
    rw [h2, List.length_map, hr.2.2]
    try rfl
  rw [List.map_map] at this
  exact this
end Go.Proofs.T
set_option linter.unusedVariables false
set_option linter.unusedSimpArgs false
set_option maxHeartbeats 1000000
namespace Go.Proofs.T
open Go.OM
theorem res126 : Tryd.f126.results.toList = [.tmp 4] := rfl
theorem ent126 : Enters E.P 126 := enters_of Tryd.func126 (by simp [Tryd.f126]) rfl
theorem impl_oneOf_ok (s1 : ByteArray) (words2 : ByteArray) {r0 : Bool} (h : impl_oneOf s1 words2 = some r0) : Ok E 126 [.val (vs s1), .val (vs words2)] [vb r0] [] := by
  refine ok_of_body (fn := Tryd.f126) Tryd.func126 rfl (by simp [Tryd.f126]) fun C hN hP => ?_
  have hPB : ∀ l, pinK [] l = true → pinB C.pin l = true := pinB_of (by rw [hP]; rfl)
  have hN' : C.N = 18 := hN
  clear hN
  unfold impl_oneOf at h
  refine SWp.seqR rfl (hPB _ rfl) fun K hK => ?_
  refine wps_cons rfl fun K hK => ?_; simp [hN']; refine hK _ ?_; clear hK
  refine wps_nil (hK _ ?_); clear hK
  obtain ⟨j5, hj3, h⟩ := bind_some h
  refine SWp.seqC [] [] (fun v : Unit => ⟨[], []⟩) (fun v => j5 = Sum.inl v) (fun v hv => ?_) fun K4 hK4 => ?_
  rotate_left
  · refine SWp.seqR rfl (hPB _ rfl) fun K hK => ?_
    refine wps_cons rfl fun K hK => ?_; simp [hN']; refine hK _ ?_; clear hK
    obtain ⟨r6, hc7, hj3⟩ := bind_some hj3
    refine wps_call [(.take, .tmp 7), (.take, .const (.string (⟨#[32]⟩ : ByteArray)))] rfl rfl ent140 (strings_Split_ok _ _ hc7) fun K hK => ?_; simp [hN']; refine hK _ ?_; clear hK
    iterate 2 (refine wps_cons rfl fun K hK => ?_; simp [hN']; refine hK _ ?_; clear hK)
    refine wps_nil (hK _ ?_); clear hK
    refine SWp.block ?_
    refine SWp.loopO [] [0, 8, 9, 10] [] (fun v : Int => ⟨[(0, .t (vs s1)), (8, .t (.sl true 1 (List.map vs r6))), (9, .t (vi (r6.length : Int))), (10, .t (vi v))], []⟩) (impl_oneOf_l1 s1 r6) _ 0 hj3 (by simp [hN']) ?_
    intro g s11 h9 ho10
    obtain ⟨v8, hg⟩ : ∃ y, y = g := ⟨_, rfl⟩
    subst hg
    simp only [impl_oneOf_l1] at h9
    try dsimp only
    refine SWp.seqR rfl (hPB _ rfl) fun K hK => ?_
    refine wps_cons rfl fun K hK => ?_; simp [hN']; refine hK _ ?_; clear hK
    refine wps_nil (hK _ ?_); clear hK
    refine SWp.seq ?_
    rcases ite_or h9 with ⟨hb12, h9⟩ | ⟨hb13, h9⟩
    · refine SWp.condT' (b := decide (v8 < (r6.length : Int))) (by simp) hb12 ?_
      refine SWp.skip ?_
      show SWp E C _ _ _
      refine SWp.seq ?_
      refine SWp.block ?_
      refine SWp.seqR rfl (hPB _ rfl) fun K hK => ?_
      obtain ⟨e14, he14, h9⟩ := bind_some h9
      obtain ⟨he14a, he14b, he14c, he14d⟩ := getI_some he14
      iterate 3 (refine wps_cons rfl fun K hK => ?_; simp [hN', he14a, he14b, he14c, he14d]; refine hK _ ?_; clear hK)
      refine wps_nil (hK _ ?_); clear hK
      refine SWp.seqR rfl (hPB _ rfl) fun K hK => ?_
      iterate 3 (refine wps_cons rfl fun K hK => ?_; simp [hN']; refine hK _ ?_; clear hK)
      refine wps_nil (hK _ ?_); clear hK
      rcases ite_or h9 with ⟨hb15, h9⟩ | ⟨hb16, h9⟩
      · refine SWp.condT' (b := sEq e14 s1) (by simp) hb15 ?_
        refine SWp.seqR rfl (hPB _ rfl) fun K hK => ?_
        refine wps_cons rfl fun K hK => ?_; simp [hN']; refine hK _ ?_; clear hK
        refine wps_nil (hK _ ?_); clear hK
        have h17 := congrArg some (ho10 _ (Option.some.inj h9).symm)
        cases h17
        try dsimp only at h
        cases h
        refine SWp.ret ?_
        simp [thenS, inBlockS, res126]
      · refine SWp.condF' (b := sEq e14 s1) (by simp) hb16 ?_
        refine SWp.skip ?_
        show SWp E C _ _ _
        refine SWp.reg rfl (hPB _ rfl) fun K hK => ?_
        iterate 2 (refine wps_cons rfl fun K hK => ?_; simp [hN']; refine hK _ ?_; clear hK)
        refine wps_nil (hK _ ?_); clear hK
        cases h9
        exact ⟨_, [], rfl, by simp [hN']⟩
    · refine SWp.condF' (b := decide (v8 < (r6.length : Int))) (by simp) hb13 ?_
      refine SWp.exit ?_
      have h18 := congrArg some (ho10 _ (Option.some.inj h9).symm)
      cases h18
      exact hK4 _ _ [] rfl (by simp [hN'])
  subst hv
  obtain ⟨⟩ := v
  try dsimp only at h ⊢
  refine SWp.seqR rfl (hPB _ rfl) fun K hK => ?_
  refine wps_cons rfl fun K hK => ?_; simp [hN']; refine hK _ ?_; clear hK
  refine wps_nil (hK _ ?_); clear hK
  cases h
  refine SWp.ret ?_
  simp [thenS, inBlockS, res126]
end Go.Proofs.T
set_option linter.unusedVariables false
set_option linter.unusedSimpArgs false
set_option maxHeartbeats 1000000
namespace Go.Proofs.T
open Go.OM
theorem res113 : Tryd.f113.results.toList = [.tmp 2] := rfl
theorem ent113 : Enters E.P 113 := enters_of Tryd.func113 (by simp [Tryd.f113]) rfl
theorem impl_KeyWord_ok (s1 : ByteArray) {r0 : Bool} (h : impl_KeyWord s1 = some r0) : Ok E 113 [.val (vs s1)] [vb r0] [] := by
  refine ok_of_body (fn := Tryd.f113) Tryd.func113 rfl (by simp [Tryd.f113]) fun C hN hP => ?_
  have hPB : ∀ l, pinK [] l = true → pinB C.pin l = true := pinB_of (by rw [hP]; rfl)
  have hN' : C.N = 5 := hN
  clear hN
  unfold impl_KeyWord at h
  refine SWp.seqR rfl (hPB _ rfl) fun K hK => ?_
  refine wps_cons rfl fun K hK => ?_; simp [hN']; refine hK _ ?_; clear hK
  refine wps_nil (hK _ ?_); clear hK
  refine SWp.seqR rfl (hPB _ rfl) fun K hK => ?_
  refine wps_cons rfl fun K hK => ?_; simp [hN']; refine hK _ ?_; clear hK
  obtain ⟨r2, hc3, h⟩ := bind_some h
  refine wps_call [(.take, .tmp 3), (.take, .const (.string (⟨#[102, 110, 32, 108, 101, 116, 32, 105, 102, 32, 101, 108, 115, 101, 32, 119, 104, 105, 108, 101, 32, 112, 114, 105, 110, 116, 32, 100, 111, 32, 110, 101, 119, 32, 99, 108, 111, 110, 101, 32, 109, 117, 116, 32, 105, 110, 112, 117, 116, 32, 105, 110, 116, 32, 98, 111, 120, 32, 114, 101, 116]⟩ : ByteArray)))] rfl rfl ent126 (impl_oneOf_ok _ _ hc3) fun K hK => ?_; simp [hN']; refine hK _ ?_; clear hK
  refine wps_cons rfl fun K hK => ?_; simp [hN']; refine hK _ ?_; clear hK
  refine wps_nil (hK _ ?_); clear hK
  cases h
  refine SWp.ret ?_
  simp [thenS, inBlockS, res113]
end Go.Proofs.T
set_option linter.unusedVariables false
set_option linter.unusedSimpArgs false
set_option maxHeartbeats 1000000
namespace Go.Proofs.T
open Go.OM
theorem res86 : Tryd.f86.results.toList = [.tmp 2] := rfl
theorem ent86 : Enters E.P 86 := enters_of Tryd.func86 (by simp [Tryd.f86]) rfl
theorem impl_NameOk_ok (s1 : ByteArray) {r0 : Bool} (h : impl_NameOk s1 = some r0) : Ok E 86 [.val (vs s1)] [vb r0] [] := by
  refine ok_of_body (fn := Tryd.f86) Tryd.func86 rfl (by simp [Tryd.f86]) fun C hN hP => ?_
  have hPB : ∀ l, pinK [] l = true → pinB C.pin l = true := pinB_of (by rw [hP]; rfl)
  have hN' : C.N = 35 := hN
  clear hN
  unfold impl_NameOk at h
  refine SWp.seqR rfl (hPB _ rfl) fun K hK => ?_
  refine wps_cons rfl fun K hK => ?_; simp [hN']; refine hK _ ?_; clear hK
  refine wps_nil (hK _ ?_); clear hK
  refine SWp.seq ?_
  obtain ⟨v11, hj2, h⟩ := bind_some h
  refine SWp.seqRC rfl (hPB _ rfl) [0, 13] [] (fun _ : Unit => ⟨[(0, .t (vs s1)), (13, .t (vb v11))], []⟩) (fun _ => True) (fun _ _ => ?_) fun K3 hK3 => ?_
  rotate_left
  · refine wps_cons rfl fun K hK => ?_; simp [hN']; refine hK _ ?_; clear hK
    refine wps_cons rfl fun K hK => ?_; simp [hN']; refine hK _ ?_; clear hK
    obtain ⟨r4, hc5, hj2⟩ := bind_some hj2
    refine wps_call [(.take, .tmp 5), (.take, .const (.int .i64 1)), (.take, .const (.int .i64 8))] rfl rfl ent66 (impl_in_ok _ _ _ hc5) fun K hK => ?_; simp [hN']; refine hK _ ?_; clear hK
    iterate 2 (refine wps_cons rfl fun K hK => ?_; simp [hN']; refine hK _ ?_; clear hK)
    rcases ite_or hj2 with ⟨hb6, hj2⟩ | ⟨hb7, hj2⟩
    · have hb6s := hb6
      try simp at hb6s
      iterate 4 (refine wps_off fun K hK => ?_; simp [hN', hb6, hb6s]; refine hK _ ?_; clear hK)
      refine wps_cons rfl fun K hK => ?_; simp [hN', hb6, hb6s]; refine hK _ ?_; clear hK
      refine wps_nil ?_
      cases hj2
      exact hK3 _ () [] trivial (by simp [hN', hb6, hb6s])
    · have hb7s := hb7
      try simp at hb7s
      refine wps_cons rfl fun K hK => ?_; simp [hN', hb7, hb7s]; refine hK _ ?_; clear hK
      obtain ⟨c8, hc8, hj2⟩ := bind_some hj2
      obtain ⟨hc8a, hc8b, hc8c⟩ := sAt_some hc8
      have hc8e : 0 < s1.size := by omega
      refine wps_cons rfl fun K hK => ?_; simp [hN', hb7, hb7s, hc8a, hc8b, hc8c, hc8e]; refine hK _ ?_; clear hK
      obtain ⟨r9, hc10, hj2⟩ := bind_some hj2
      refine wps_call [(.take, .tmp 10)] rfl rfl ent111 (impl_isLetter_ok _ hc10) fun K hK => ?_; simp [hN', hb7, hb7s, hc8a, hc8b, hc8c, hc8e]; refine hK _ ?_; clear hK
      iterate 2 (refine wps_cons rfl fun K hK => ?_; simp [hN', hb7, hb7s, hc8a, hc8b, hc8c, hc8e]; refine hK _ ?_; clear hK)
      refine wps_nil ?_
      cases hj2
      exact hK3 _ () [] trivial (by simp [hN', hb7, hb7s, hc8a, hc8b, hc8c, hc8e])
  rcases ite_or h with ⟨hb12, h⟩ | ⟨hb13, h⟩
  · refine SWp.condT' (b := v11) (by simp) hb12 ?_
    refine SWp.seqR rfl (hPB _ rfl) fun K hK => ?_
    refine wps_cons rfl fun K hK => ?_; simp [hN']; refine hK _ ?_; clear hK
    refine wps_nil (hK _ ?_); clear hK
    cases h
    refine SWp.ret ?_
    simp [thenS, inBlockS, res86]
  · refine SWp.condF' (b := v11) (by simp) hb13 ?_
    refine SWp.skip ?_
    show SWp E C _ _ _
    obtain ⟨j16, hj14, h⟩ := bind_some h
    refine SWp.seqC [0] [] (fun v : Unit => ⟨[(0, .t (vs s1))], []⟩) (fun v => j16 = Sum.inl v) (fun v hv => ?_) fun K15 hK15 => ?_
    rotate_left
    · refine SWp.seqR rfl (hPB _ rfl) fun K hK => ?_
      refine wps_cons rfl fun K hK => ?_; simp [hN']; refine hK _ ?_; clear hK
      refine wps_nil (hK _ ?_); clear hK
      refine SWp.block ?_
      refine SWp.loopO [] [0, 3] [] (fun v : Int => ⟨[(0, .t (vs s1)), (3, .t (vi v))], []⟩) (impl_NameOk_l1 s1) _ 0 hj14 (by simp [hN']) ?_
      intro g s20 h18 ho19
      obtain ⟨i17, hg⟩ : ∃ y, y = g := ⟨_, rfl⟩
      subst hg
      simp only [impl_NameOk_l1] at h18
      try dsimp only
      refine SWp.seq ?_
      refine SWp.seqR rfl (hPB _ rfl) fun K hK => ?_
      iterate 4 (refine wps_cons rfl fun K hK => ?_; simp [hN']; refine hK _ ?_; clear hK)
      refine wps_nil (hK _ ?_); clear hK
      rcases ite_or h18 with ⟨hb21, h18⟩ | ⟨hb22, h18⟩
      · refine SWp.condT' (b := decide (i17 < (s1.size : Int))) (by simp) hb21 ?_
        refine SWp.skip ?_
        show SWp E C _ _ _
        refine SWp.seq ?_
        refine SWp.block ?_
        obtain ⟨v32, hj23, h18⟩ := bind_some h18
        refine SWp.seqRC rfl (hPB _ rfl) [0, 3, 31] [] (fun _ : Unit => ⟨[(0, .t (vs s1)), (3, .t (vi i17)), (31, .t (vb v32))], []⟩) (fun _ => True) (fun _ _ => ?_) fun K24 hK24 => ?_
        rotate_left
        · refine wps_cons rfl fun K hK => ?_; simp [hN']; refine hK _ ?_; clear hK
          refine wps_cons rfl fun K hK => ?_; simp [hN']; refine hK _ ?_; clear hK
          obtain ⟨c25, hc25, hj23⟩ := bind_some hj23
          obtain ⟨hc25a, hc25b, hc25c⟩ := sAt_some hc25
          refine wps_cons rfl fun K hK => ?_; simp [hN', hc25a, hc25b, hc25c]; refine hK _ ?_; clear hK
          obtain ⟨r26, hc27, hj23⟩ := bind_some hj23
          refine wps_call [(.take, .tmp 22)] rfl rfl ent111 (impl_isLetter_ok _ hc27) fun K hK => ?_; simp [hN', hc25a, hc25b, hc25c]; refine hK _ ?_; clear hK
          iterate 2 (refine wps_cons rfl fun K hK => ?_; simp [hN', hc25a, hc25b, hc25c]; refine hK _ ?_; clear hK)
          rcases ite_or hj23 with ⟨hb28, hj23⟩ | ⟨hb29, hj23⟩
          · have hb28s := hb28
            try simp at hb28s
            iterate 3 (refine wps_cons rfl fun K hK => ?_; simp [hN', hc25a, hc25b, hc25c, hb28, hb28s]; refine hK _ ?_; clear hK)
            obtain ⟨r30, hc31, hj23⟩ := bind_some hj23
            refine wps_call [(.take, .tmp 28)] rfl rfl ent112 (impl_isFigure_ok _ hc31) fun K hK => ?_; simp [hN', hc25a, hc25b, hc25c, hb28, hb28s]; refine hK _ ?_; clear hK
            iterate 2 (refine wps_cons rfl fun K hK => ?_; simp [hN', hc25a, hc25b, hc25c, hb28, hb28s]; refine hK _ ?_; clear hK)
            refine wps_nil ?_
            cases hj23
            exact hK24 _ () [] trivial (by simp [hN', hc25a, hc25b, hc25c, hb28, hb28s])
          · have hb29s := hb29
            try simp at hb29s
            iterate 5 (refine wps_off fun K hK => ?_; simp [hN', hc25a, hc25b, hc25c, hb29, hb29s]; refine hK _ ?_; clear hK)
            refine wps_cons rfl fun K hK => ?_; simp [hN', hc25a, hc25b, hc25c, hb29, hb29s]; refine hK _ ?_; clear hK
            refine wps_nil ?_
            cases hj23
            exact hK24 _ () [] trivial (by simp [hN', hc25a, hc25b, hc25c, hb29, hb29s])
        rcases ite_or h18 with ⟨hb33, h18⟩ | ⟨hb34, h18⟩
        · refine SWp.condT' (b := v32) (by simp) hb33 ?_
          refine SWp.seqR rfl (hPB _ rfl) fun K hK => ?_
          refine wps_cons rfl fun K hK => ?_; simp [hN']; refine hK _ ?_; clear hK
          refine wps_nil (hK _ ?_); clear hK
          have h35 := congrArg some (ho19 _ (Option.some.inj h18).symm)
          cases h35
          try dsimp only at h
          cases h
          refine SWp.ret ?_
          simp [thenS, inBlockS, res86]
        · refine SWp.condF' (b := v32) (by simp) hb34 ?_
          refine SWp.skip ?_
          show SWp E C _ _ _
          refine SWp.reg rfl (hPB _ rfl) fun K hK => ?_
          iterate 3 (refine wps_cons rfl fun K hK => ?_; simp [hN']; refine hK _ ?_; clear hK)
          refine wps_nil (hK _ ?_); clear hK
          cases h18
          exact ⟨_, [], rfl, by simp [hN']⟩
      · refine SWp.condF' (b := decide (i17 < (s1.size : Int))) (by simp) hb22 ?_
        refine SWp.exit ?_
        have h36 := congrArg some (ho19 _ (Option.some.inj h18).symm)
        cases h36
        exact hK15 _ _ [] rfl (by simp [hN'])
    subst hv
    obtain ⟨⟩ := v
    try dsimp only at h ⊢
    refine SWp.seqR rfl (hPB _ rfl) fun K hK => ?_
    refine wps_cons rfl fun K hK => ?_; simp [hN']; refine hK _ ?_; clear hK
    obtain ⟨r37, hc38, h⟩ := bind_some h
    refine wps_call [(.take, .tmp 32)] rfl rfl ent113 (impl_KeyWord_ok _ hc38) fun K hK => ?_; simp [hN']; refine hK _ ?_; clear hK
    iterate 2 (refine wps_cons rfl fun K hK => ?_; simp [hN']; refine hK _ ?_; clear hK)
    refine wps_nil (hK _ ?_); clear hK
    cases h
    refine SWp.ret ?_
    simp [thenS, inBlockS, res86]
end Go.Proofs.T
set_option linter.unusedVariables false
set_option linter.unusedSimpArgs false
set_option maxHeartbeats 1000000
namespace Go.Proofs.T
open Go.OM
theorem res114 : Tryd.f114.results.toList = [.tmp 6] := rfl
theorem ent114 : Enters E.P 114 := enters_of Tryd.func114 (by simp [Tryd.f114]) rfl
theorem impl_isPlace_ok (c1 : GCode) (n2 : Int) (has3 : Bool) {r0 : Bool} (h : impl_isPlace c1 n2 has3 = some r0) : Ok E 114 [.val (GCode.enc false c1), .val (vi n2), .val (vb has3)] [vb r0] [] := by
  refine ok_of_body (fn := Tryd.f114) Tryd.func114 rfl (by simp [Tryd.f114]) fun C hN hP => ?_
  have hPB : ∀ l, pinK [] l = true → pinB C.pin l = true := pinB_of (by rw [hP]; rfl)
  have hN' : C.N = 16 := hN
  clear hN
  unfold impl_isPlace at h
  refine SWp.seqR rfl (hPB _ rfl) fun K hK => ?_
  iterate 2 (refine wps_cons rfl fun K hK => ?_; simp [hN']; refine hK _ ?_; clear hK)
  refine wps_nil (hK _ ?_); clear hK
  refine SWp.seq ?_
  refine SWp.seqR rfl (hPB _ rfl) fun K hK => ?_
  refine wps_cons rfl fun K hK => ?_; simp [hN']; refine hK _ ?_; clear hK
  refine wps_nil (hK _ ?_); clear hK
  rcases ite_or h with ⟨hb4, h⟩ | ⟨hb5, h⟩
  · refine SWp.condT' (b := has3) (by simp) hb4 ?_
    refine SWp.seqR rfl (hPB _ rfl) fun K hK => ?_
    iterate 5 (refine wps_cons rfl fun K hK => ?_; simp [hN']; refine hK _ ?_; clear hK)
    obtain ⟨r6, hc7, h⟩ := bind_some h
    refine wps_call [(.take, .tmp 8), (.take, .const (.int .i64 0)), (.take, .tmp 12)] rfl rfl ent66 (impl_in_ok _ _ _ hc7) fun K hK => ?_; simp [hN']; refine hK _ ?_; clear hK
    refine wps_cons rfl fun K hK => ?_; simp [hN']; refine hK _ ?_; clear hK
    refine wps_nil (hK _ ?_); clear hK
    cases h
    refine SWp.ret ?_
    simp [thenS, inBlockS, res114]
  · refine SWp.condF' (b := has3) (by simp) hb5 ?_
    refine SWp.skip ?_
    show SWp E C _ _ _
    refine SWp.seqR rfl (hPB _ rfl) fun K hK => ?_
    iterate 3 (refine wps_cons rfl fun K hK => ?_; simp [hN']; refine hK _ ?_; clear hK)
    refine wps_nil (hK _ ?_); clear hK
    cases h
    refine SWp.ret ?_
    simp [thenS, inBlockS, res114]
end Go.Proofs.T
set_option linter.unusedVariables false
set_option linter.unusedSimpArgs false
set_option maxHeartbeats 1000000
namespace Go.Proofs.T
open Go.OM
theorem res115 : Tryd.f115.results.toList = [.tmp 2] := rfl
theorem ent115 : Enters E.P 115 := enters_of Tryd.func115 (by simp [Tryd.f115]) rfl
theorem impl_hasA_ok (op1 : Int) {r0 : Bool} (h : impl_hasA op1 = some r0) : Ok E 115 [.val (vi op1)] [vb r0] [] := by
  refine ok_of_body (fn := Tryd.f115) Tryd.func115 rfl (by simp [Tryd.f115]) fun C hN hP => ?_
  have hPB : ∀ l, pinK [] l = true → pinB C.pin l = true := pinB_of (by rw [hP]; rfl)
  have hN' : C.N = 13 := hN
  clear hN
  unfold impl_hasA at h
  refine SWp.seqR rfl (hPB _ rfl) fun K hK => ?_
  refine wps_cons rfl fun K hK => ?_; simp [hN']; refine hK _ ?_; clear hK
  refine wps_nil (hK _ ?_); clear hK
  obtain ⟨v10, hj2, h⟩ := bind_some h
  refine SWp.seqRC rfl (hPB _ rfl) [2] [] (fun _ : Unit => ⟨[(2, .t (vb v10))], []⟩) (fun _ => True) (fun _ _ => ?_) fun K3 hK3 => ?_
  rotate_left
  · refine wps_cons rfl fun K hK => ?_; simp [hN']; refine hK _ ?_; clear hK
    obtain ⟨r4, hc5, hj2⟩ := bind_some hj2
    refine wps_call [(.take, .tmp 3), (.take, .const (.int .i64 1)), (.take, .const (.int .i64 17))] rfl rfl ent66 (impl_in_ok _ _ _ hc5) fun K hK => ?_; simp [hN']; refine hK _ ?_; clear hK
    refine wps_cons rfl fun K hK => ?_; simp [hN']; refine hK _ ?_; clear hK
    rcases ite_or hj2 with ⟨hb6, hj2⟩ | ⟨hb7, hj2⟩
    · have hb6s := hb6
      try simp at hb6s
      iterate 2 (refine wps_off fun K hK => ?_; simp [hN', hb6, hb6s]; refine hK _ ?_; clear hK)
      iterate 2 (refine wps_cons rfl fun K hK => ?_; simp [hN', hb6, hb6s]; refine hK _ ?_; clear hK)
      iterate 2 (refine wps_off fun K hK => ?_; simp [hN', hb6, hb6s]; refine hK _ ?_; clear hK)
      iterate 2 (refine wps_cons rfl fun K hK => ?_; simp [hN', hb6, hb6s]; refine hK _ ?_; clear hK)
      refine wps_nil ?_
      cases hj2
      exact hK3 _ () [] trivial (by simp [hN', hb6, hb6s])
    · have hb7s := hb7
      try simp at hb7s
      iterate 4 (refine wps_cons rfl fun K hK => ?_; simp [hN', hb7, hb7s]; refine hK _ ?_; clear hK)
      rcases ite_or hj2 with ⟨hb8, hj2⟩ | ⟨hb9, hj2⟩
      · have hb8s := hb8
        try simp at hb8s
        iterate 2 (refine wps_off fun K hK => ?_; simp [hN', hb7, hb7s, hb8, hb8s]; refine hK _ ?_; clear hK)
        iterate 2 (refine wps_cons rfl fun K hK => ?_; simp [hN', hb7, hb7s, hb8, hb8s]; refine hK _ ?_; clear hK)
        refine wps_nil ?_
        cases hj2
        exact hK3 _ () [] trivial (by simp [hN', hb7, hb7s, hb8, hb8s])
      · have hb9s := hb9
        try simp at hb9s
        iterate 4 (refine wps_cons rfl fun K hK => ?_; simp [hN', hb7, hb7s, hb9, hb9s]; refine hK _ ?_; clear hK)
        refine wps_nil ?_
        cases hj2
        exact hK3 _ () [] trivial (by simp [hN', hb7, hb7s, hb9, hb9s])
  cases h
  refine SWp.ret ?_
  simp [thenS, inBlockS, res115]
end Go.Proofs.T
set_option linter.unusedVariables false
set_option linter.unusedSimpArgs false
set_option maxHeartbeats 1000000
namespace Go.Proofs.T
open Go.OM
theorem res116 : Tryd.f116.results.toList = [.tmp 2] := rfl
theorem ent116 : Enters E.P 116 := enters_of Tryd.func116 (by simp [Tryd.f116]) rfl
theorem impl_hasB_ok (op1 : Int) {r0 : Bool} (h : impl_hasB op1 = some r0) : Ok E 116 [.val (vi op1)] [vb r0] [] := by
  refine ok_of_body (fn := Tryd.f116) Tryd.func116 rfl (by simp [Tryd.f116]) fun C hN hP => ?_
  have hPB : ∀ l, pinK [] l = true → pinB C.pin l = true := pinB_of (by rw [hP]; rfl)
  have hN' : C.N = 17 := hN
  clear hN
  unfold impl_hasB at h
  refine SWp.seqR rfl (hPB _ rfl) fun K hK => ?_
  refine wps_cons rfl fun K hK => ?_; simp [hN']; refine hK _ ?_; clear hK
  refine wps_nil (hK _ ?_); clear hK
  obtain ⟨v14, hj2, h⟩ := bind_some h
  refine SWp.seqRC rfl (hPB _ rfl) [2] [] (fun _ : Unit => ⟨[(2, .t (vb v14))], []⟩) (fun _ => True) (fun _ _ => ?_) fun K3 hK3 => ?_
  rotate_left
  · refine wps_cons rfl fun K hK => ?_; simp [hN']; refine hK _ ?_; clear hK
    obtain ⟨r4, hc5, hj2⟩ := bind_some hj2
    refine wps_call [(.take, .tmp 3), (.take, .const (.int .i64 2)), (.take, .const (.int .i64 7))] rfl rfl ent66 (impl_in_ok _ _ _ hc5) fun K hK => ?_; simp [hN']; refine hK _ ?_; clear hK
    refine wps_cons rfl fun K hK => ?_; simp [hN']; refine hK _ ?_; clear hK
    rcases ite_or hj2 with ⟨hb6, hj2⟩ | ⟨hb7, hj2⟩
    · have hb6s := hb6
      try simp at hb6s
      iterate 2 (refine wps_off fun K hK => ?_; simp [hN', hb6, hb6s]; refine hK _ ?_; clear hK)
      iterate 2 (refine wps_cons rfl fun K hK => ?_; simp [hN', hb6, hb6s]; refine hK _ ?_; clear hK)
      iterate 2 (refine wps_off fun K hK => ?_; simp [hN', hb6, hb6s]; refine hK _ ?_; clear hK)
      iterate 2 (refine wps_cons rfl fun K hK => ?_; simp [hN', hb6, hb6s]; refine hK _ ?_; clear hK)
      iterate 2 (refine wps_off fun K hK => ?_; simp [hN', hb6, hb6s]; refine hK _ ?_; clear hK)
      iterate 2 (refine wps_cons rfl fun K hK => ?_; simp [hN', hb6, hb6s]; refine hK _ ?_; clear hK)
      refine wps_nil ?_
      cases hj2
      exact hK3 _ () [] trivial (by simp [hN', hb6, hb6s])
    · have hb7s := hb7
      try simp at hb7s
      refine wps_cons rfl fun K hK => ?_; simp [hN', hb7, hb7s]; refine hK _ ?_; clear hK
      obtain ⟨r8, hc9, hj2⟩ := bind_some hj2
      refine wps_call [(.take, .tmp 6), (.take, .const (.int .i64 9)), (.take, .const (.int .i64 12))] rfl rfl ent66 (impl_in_ok _ _ _ hc9) fun K hK => ?_; simp [hN', hb7, hb7s]; refine hK _ ?_; clear hK
      iterate 2 (refine wps_cons rfl fun K hK => ?_; simp [hN', hb7, hb7s]; refine hK _ ?_; clear hK)
      rcases ite_or hj2 with ⟨hb10, hj2⟩ | ⟨hb11, hj2⟩
      · have hb10s := hb10
        try simp at hb10s
        iterate 2 (refine wps_off fun K hK => ?_; simp [hN', hb7, hb7s, hb10, hb10s]; refine hK _ ?_; clear hK)
        iterate 2 (refine wps_cons rfl fun K hK => ?_; simp [hN', hb7, hb7s, hb10, hb10s]; refine hK _ ?_; clear hK)
        iterate 2 (refine wps_off fun K hK => ?_; simp [hN', hb7, hb7s, hb10, hb10s]; refine hK _ ?_; clear hK)
        iterate 2 (refine wps_cons rfl fun K hK => ?_; simp [hN', hb7, hb7s, hb10, hb10s]; refine hK _ ?_; clear hK)
        refine wps_nil ?_
        cases hj2
        exact hK3 _ () [] trivial (by simp [hN', hb7, hb7s, hb10, hb10s])
      · have hb11s := hb11
        try simp at hb11s
        iterate 4 (refine wps_cons rfl fun K hK => ?_; simp [hN', hb7, hb7s, hb11, hb11s]; refine hK _ ?_; clear hK)
        rcases ite_or hj2 with ⟨hb12, hj2⟩ | ⟨hb13, hj2⟩
        · have hb12s := hb12
          try simp at hb12s
          iterate 2 (refine wps_off fun K hK => ?_; simp [hN', hb7, hb7s, hb11, hb11s, hb12, hb12s]; refine hK _ ?_; clear hK)
          iterate 2 (refine wps_cons rfl fun K hK => ?_; simp [hN', hb7, hb7s, hb11, hb11s, hb12, hb12s]; refine hK _ ?_; clear hK)
          refine wps_nil ?_
          cases hj2
          exact hK3 _ () [] trivial (by simp [hN', hb7, hb7s, hb11, hb11s, hb12, hb12s])
        · have hb13s := hb13
          try simp at hb13s
          iterate 4 (refine wps_cons rfl fun K hK => ?_; simp [hN', hb7, hb7s, hb11, hb11s, hb13, hb13s]; refine hK _ ?_; clear hK)
          refine wps_nil ?_
          cases hj2
          exact hK3 _ () [] trivial (by simp [hN', hb7, hb7s, hb11, hb11s, hb13, hb13s])
  cases h
  refine SWp.ret ?_
  simp [thenS, inBlockS, res116]
end Go.Proofs.T
set_option linter.unusedVariables false
set_option linter.unusedSimpArgs false
set_option maxHeartbeats 1000000
namespace Go.Proofs.T
open Go.OM
theorem res117 : Tryd.f117.results.toList = [.tmp 2] := rfl
theorem ent117 : Enters E.P 117 := enters_of Tryd.func117 (by simp [Tryd.f117]) rfl
theorem impl_hasC_ok (op1 : Int) {r0 : Bool} (h : impl_hasC op1 = some r0) : Ok E 117 [.val (vi op1)] [vb r0] [] := by
  refine ok_of_body (fn := Tryd.f117) Tryd.func117 rfl (by simp [Tryd.f117]) fun C hN hP => ?_
  have hPB : ∀ l, pinK [] l = true → pinB C.pin l = true := pinB_of (by rw [hP]; rfl)
  have hN' : C.N = 5 := hN
  clear hN
  unfold impl_hasC at h
  refine SWp.seqR rfl (hPB _ rfl) fun K hK => ?_
  refine wps_cons rfl fun K hK => ?_; simp [hN']; refine hK _ ?_; clear hK
  refine wps_nil (hK _ ?_); clear hK
  refine SWp.seqR rfl (hPB _ rfl) fun K hK => ?_
  refine wps_cons rfl fun K hK => ?_; simp [hN']; refine hK _ ?_; clear hK
  obtain ⟨r2, hc3, h⟩ := bind_some h
  refine wps_call [(.take, .tmp 3), (.take, .const (.int .i64 10)), (.take, .const (.int .i64 12))] rfl rfl ent66 (impl_in_ok _ _ _ hc3) fun K hK => ?_; simp [hN']; refine hK _ ?_; clear hK
  refine wps_cons rfl fun K hK => ?_; simp [hN']; refine hK _ ?_; clear hK
  refine wps_nil (hK _ ?_); clear hK
  cases h
  refine SWp.ret ?_
  simp [thenS, inBlockS, res117]
end Go.Proofs.T
set_option linter.unusedVariables false
set_option linter.unusedSimpArgs false
set_option maxHeartbeats 8000000
namespace Go.Proofs.T
open Go.OM
theorem res87 : Tryd.f87.results.toList = [.tmp 4] := rfl
theorem ent87 : Enters E.P 87 := enters_of Tryd.func87 (by simp [Tryd.f87]) rfl
theorem impl_WordOk_ok (c1 : GCode) (x2 : GIns) {r0 : Bool} (h : impl_WordOk c1 x2 = some r0) : Ok E 87 [.val (GCode.enc false c1), .val (GIns.enc false x2)] [vb r0] [] := by
  refine ok_of_body (fn := Tryd.f87) Tryd.func87 rfl (by simp [Tryd.f87]) fun C hN hP => ?_
  have hPB : ∀ l, pinK [] l = true → pinB C.pin l = true := pinB_of (by rw [hP]; rfl)
  have hN' : C.N = 107 := hN
  clear hN
  unfold impl_WordOk at h
  refine SWp.seqR rfl (hPB _ rfl) fun K hK => ?_
  iterate 3 (refine wps_cons rfl fun K hK => ?_; simp [hN']; refine hK _ ?_; clear hK)
  refine wps_nil (hK _ ?_); clear hK
  refine SWp.seq ?_
  refine SWp.seqR rfl (hPB _ rfl) fun K hK => ?_
  iterate 2 (refine wps_cons rfl fun K hK => ?_; simp [hN']; refine hK _ ?_; clear hK)
  obtain ⟨r3, hc4, h⟩ := bind_some h
  refine wps_call [(.take, .tmp 10), (.take, .const (.int .i64 1)), (.take, .const (.int .i64 20))] rfl rfl ent66 (impl_in_ok _ _ _ hc4) fun K hK => ?_; simp [hN']; refine hK _ ?_; clear hK
  refine wps_cons rfl fun K hK => ?_; simp [hN']; refine hK _ ?_; clear hK
  refine wps_nil (hK _ ?_); clear hK
  rcases ite_or h with ⟨hb5, h⟩ | ⟨hb6, h⟩
  · refine SWp.condT' (b := !r3) (by simp) hb5 ?_
    refine SWp.seqR rfl (hPB _ rfl) fun K hK => ?_
    refine wps_cons rfl fun K hK => ?_; simp [hN']; refine hK _ ?_; clear hK
    refine wps_nil (hK _ ?_); clear hK
    cases h
    refine SWp.ret ?_
    simp [thenS, inBlockS, res87]
  · refine SWp.condF' (b := !r3) (by simp) hb6 ?_
    refine SWp.skip ?_
    show SWp E C _ _ _
    obtain ⟨none13, hj7, h⟩ := bind_some h
    refine SWp.seqRC rfl (hPB _ rfl) [2, 3, 5] [2, 3] (fun _ : Unit => ⟨[(2, .ref (.box 2) 0 []), (3, .ref (.box 3) 0 []), (5, .t (vb none13))], [(2, [vs c1.Name, vi c1.Params, .sl false 1 (List.map vi c1.Locals), .sl false 7 (List.map (GIns.enc false) c1.Words)]), (3, [vi x2.Op, vi x2.A, vi x2.B, vi x2.C, vi x2.Num, vs x2.Name, .sl false 1 (List.map vi x2.Args)])]⟩) (fun _ => True) (fun _ _ => ?_) fun K8 hK8 => ?_
    rotate_left
    · refine wps_cons rfl fun K hK => ?_; simp [hN']; refine hK _ ?_; clear hK
      iterate 3 (refine wps_cons rfl fun K hK => ?_; simp [hN']; refine hK _ ?_; clear hK)
      rcases ite_or hj7 with ⟨hb9, hj7⟩ | ⟨hb10, hj7⟩
      · have hb9s := hb9
        try simp at hb9s
        iterate 3 (refine wps_off fun K hK => ?_; simp [hN', hb9, hb9s]; refine hK _ ?_; clear hK)
        iterate 7 (refine wps_cons rfl fun K hK => ?_; simp [hN', hb9, hb9s]; refine hK _ ?_; clear hK)
        refine wps_nil ?_
        cases hj7
        exact hK8 _ () [] trivial (by simp [hN', hb9, hb9s])
      · have hb10s := hb10
        try simp at hb10s
        iterate 5 (refine wps_cons rfl fun K hK => ?_; simp [hN', hb10, hb10s]; refine hK _ ?_; clear hK)
        rcases ite_or hj7 with ⟨hb11, hj7⟩ | ⟨hb12, hj7⟩
        · have hb11s := hb11
          try simp at hb11s
          iterate 5 (refine wps_cons rfl fun K hK => ?_; simp [hN', hb10, hb10s, hb11, hb11s]; refine hK _ ?_; clear hK)
          refine wps_nil ?_
          cases hj7
          exact hK8 _ () [] trivial (by simp [hN', hb10, hb10s, hb11, hb11s])
        · have hb12s := hb12
          try simp at hb12s
          iterate 3 (refine wps_off fun K hK => ?_; simp [hN', hb10, hb10s, hb12, hb12s]; refine hK _ ?_; clear hK)
          iterate 2 (refine wps_cons rfl fun K hK => ?_; simp [hN', hb10, hb10s, hb12, hb12s]; refine hK _ ?_; clear hK)
          refine wps_nil ?_
          cases hj7
          exact hK8 _ () [] trivial (by simp [hN', hb10, hb10s, hb12, hb12s])
    refine SWp.seq ?_
    obtain ⟨v44, hj14, h⟩ := bind_some h
    refine SWp.seqC [2, 3, 57] [2, 3] (fun _ : Unit => ⟨[(2, .ref (.box 2) 0 []), (3, .ref (.box 3) 0 []), (57, .t (vb v44))], [(2, [vs c1.Name, vi c1.Params, .sl false 1 (List.map vi c1.Locals), .sl false 7 (List.map (GIns.enc false) c1.Words)]), (3, [vi x2.Op, vi x2.A, vi x2.B, vi x2.C, vi x2.Num, vs x2.Name, .sl false 1 (List.map vi x2.Args)])]⟩) (fun _ => True) (fun _ _ => ?_) fun K15 hK15 => ?_
    rotate_left
    · rcases ite_or hj14 with ⟨hb16, hj14⟩ | ⟨hb17, hj14⟩
      · have hb16s := hb16
        try simp at hb16s
        obtain ⟨r18, hc19, hj14⟩ := bind_some hj14
        obtain ⟨r20, hc21, hj14⟩ := bind_some hj14
        rcases ite_or hj14 with ⟨hb22, hj14⟩ | ⟨hb23, hj14⟩
        · have hb22s := hb22
          try simp at hb22s
          refine SWp.drawT rfl (hPB _ rfl) [(26, .t (vb none13)), (27, .t (vb (!none13))), (28, .t (vb (!none13))), (29, .t (GCode.enc false c1)), (30, .ref (.box 3) 1 []), (31, .t (vi x2.A)), (32, .ref (.box 3) 0 []), (33, .t (vi x2.Op)), (34, .t (vb r18)), (35, .t (vb r20)), (36, .t (vb (!r20))), (37, .t (vb (!r20))), (38, .t (vb (!r20))), (39, .tup []), (40, .tup []), (41, .tup []), (42, .tup []), (43, .tup []), (44, .tup []), (45, .tup []), (46, .tup []), (47, .t (vb true)), (48, .t (vb true)), (49, .tup []), (50, .tup []), (51, .tup []), (52, .tup []), (53, .tup []), (54, .tup [])] [[], [0], [0, 1], [0, 1, 2], [0, 1, 2], [0, 1, 2, 4], [0, 1, 2], [0, 1, 2, 6], [0, 1, 2, 6, 7], [0, 1, 2, 3, 4, 5, 6, 7, 8], [0, 1, 2, 3, 4, 5, 6, 7, 8, 9], [0, 1, 2, 3, 4, 5, 6, 7, 8, 9, 10], [0, 1, 2, 3, 4, 5, 6, 7, 8, 9, 10, 11], [0, 1, 2, 3, 4, 5, 6, 7, 8, 9, 10, 11, 12], [0, 1, 2, 3, 4, 5, 6, 7, 8, 9, 10, 11, 12], [0, 1, 2, 3, 4, 5, 6, 7, 8, 9, 10, 11, 12, 14], [0, 1, 2, 3, 4, 5, 6, 7, 8, 9, 10, 11, 12], [0, 1, 2, 3, 4, 5, 6, 7, 8, 9, 10, 11, 12, 16], [0, 1, 2, 3, 4, 5, 6, 7, 8, 9, 10, 11, 12, 16, 17], [0, 1, 2, 3, 4, 5, 6, 7, 8, 9, 10, 11, 12, 13, 14, 15, 16, 17, 18], [0, 1, 2, 3, 4, 5, 6, 7, 8, 9, 10, 11, 12, 13, 14, 15, 16, 17, 18, 19], [0, 1, 2, 3, 4, 5, 6, 7, 8, 9, 10, 11, 12, 13, 14, 15, 16, 17, 18, 19, 20], [0, 1, 2, 3, 4, 5, 6, 7, 8, 9, 10, 11, 12, 13, 14, 15, 16, 17, 18, 19, 20, 21], [0, 1, 2, 3, 4, 5, 6, 7, 8, 9, 10, 11, 12, 13, 14, 15, 16, 17, 18, 19, 20, 21, 22], [0, 1, 2, 3, 4, 5, 6, 7, 8, 9, 10, 11, 12, 13, 14, 15, 16, 17, 18, 19, 20, 21, 22], [0, 1, 2, 3, 4, 5, 6, 7, 8, 9, 10, 11, 12, 13, 14, 15, 16, 17, 18, 19, 20, 21, 22, 24], [0, 1, 2, 3, 4, 5, 6, 7, 8, 9, 10, 11, 12, 13, 14, 15, 16, 17, 18, 19, 20, 21, 22], [0, 1, 2, 3, 4, 5, 6, 7, 8, 9, 10, 11, 12, 13, 14, 15, 16, 17, 18, 19, 20, 21, 22, 26], [0, 1, 2, 3, 4, 5, 6, 7, 8, 9, 10, 11, 12, 13, 14, 15, 16, 17, 18, 19, 20, 21, 22, 26, 27], [0, 1, 2, 3, 4, 5, 6, 7, 8, 9, 10, 11, 12, 13, 14, 15, 16, 17, 18, 19, 20, 21, 22, 23, 24, 25, 26, 27, 28], [0, 1, 2, 3, 4, 5, 6, 7, 8, 9, 10, 11, 12, 13, 14, 15, 16, 17, 18, 19, 20, 21, 22, 23, 24, 25, 26, 27, 28, 29], [0, 1, 2, 3, 4, 5, 6, 7, 8, 9, 10, 11, 12, 13, 14, 15, 16, 17, 18, 19, 20, 21, 22, 23, 24, 25, 26, 27, 28, 29, 30]] (by simp) (by simp) (by simp [look]) rfl rfl rfl ?_ fun K hK => ?_
          · refine ⟨?_, ?_, ?_, ?_, ?_, ?_, ?_, ?_, ?_, ?_, ?_, ?_, ?_, ?_, ?_, ?_, ?_, ?_, ?_, ?_, ?_, ?_, ?_, ?_, ?_, ?_, ?_, ?_, ?_, trivial⟩
            all_goals (intro τ hbx hb hd hf K hK; try simp [vsAt] at hd; simp [vsAt] at hf; first | (refine wps_cons rfl fun K' hK' => ?_; simp [hN', hbx, hb, hd, hf, hb16, hb16s, hb22, hb22s]; exact hK' _ (wps_nil (hK _ (by simp [vsAt, hbx, hb16, hb16s, hb22, hb22s])))) | (refine wps_call [(.take, .tmp 33)] rfl rfl ent115 (impl_hasA_ok _ hc19) fun K' hK' => ?_; simp [hN', hbx, hb, hd, hf, hb16, hb16s, hb22, hb22s]; exact hK' _ (wps_nil (hK _ (by simp [vsAt, hbx, hb16, hb16s, hb22, hb22s])))) | (refine wps_call [(.take, .tmp 29), (.take, .tmp 31), (.take, .tmp 34)] rfl rfl ent114 (impl_isPlace_ok _ _ _ hc21) fun K' hK' => ?_; simp [hN', hbx, hb, hd, hf, hb16, hb16s, hb22, hb22s]; exact hK' _ (wps_nil (hK _ (by simp [vsAt, hbx, hb16, hb16s, hb22, hb22s])))) | (refine wps_off fun K' hK' => ?_; simp [hN', hbx, hb, hd, hf, hb16, hb16s, hb22, hb22s]; exact hK' _ (wps_nil (hK _ (by simp [vsAt, hbx, hb16, hb16s, hb22, hb22s])))))
          iterate 2 (refine wps_off fun K hK => ?_; simp [hN', hb16, hb16s, hb22, hb22s]; refine hK _ ?_; clear hK)
          refine wps_cons rfl fun K hK => ?_; simp [hN', hb16, hb16s, hb22, hb22s]; refine hK _ ?_; clear hK
          refine wps_nil (hK _ ?_); clear hK
          cases hj14
          exact hK15 _ () [] trivial (by simp [hN', hb16, hb16s, hb22, hb22s])
        · have hb23s := hb23
          try simp at hb23s
          obtain ⟨r24, hc25, hj14⟩ := bind_some hj14
          obtain ⟨r26, hc27, hj14⟩ := bind_some hj14
          rcases ite_or hj14 with ⟨hb28, hj14⟩ | ⟨hb29, hj14⟩
          · have hb28s := hb28
            try simp at hb28s
            refine SWp.drawT rfl (hPB _ rfl) [(26, .t (vb none13)), (27, .t (vb (!none13))), (28, .t (vb (!none13))), (29, .t (GCode.enc false c1)), (30, .ref (.box 3) 1 []), (31, .t (vi x2.A)), (32, .ref (.box 3) 0 []), (33, .t (vi x2.Op)), (34, .t (vb r18)), (35, .t (vb r20)), (36, .t (vb (!r20))), (37, .t (vb (!r20))), (38, .t (vb (!r20))), (39, .t (GCode.enc false c1)), (40, .ref (.box 3) 2 []), (41, .t (vi x2.B)), (42, .ref (.box 3) 0 []), (43, .t (vi x2.Op)), (44, .t (vb r24)), (45, .t (vb r26)), (46, .t (vb (!r26))), (47, .t (vb (!r26))), (48, .t (vb (!r26))), (49, .tup []), (50, .tup []), (51, .tup []), (52, .tup []), (53, .tup []), (54, .tup [])] [[], [0], [0, 1], [0, 1, 2], [0, 1, 2], [0, 1, 2, 4], [0, 1, 2], [0, 1, 2, 6], [0, 1, 2, 6, 7], [0, 1, 2, 3, 4, 5, 6, 7, 8], [0, 1, 2, 3, 4, 5, 6, 7, 8, 9], [0, 1, 2, 3, 4, 5, 6, 7, 8, 9, 10], [0, 1, 2, 3, 4, 5, 6, 7, 8, 9, 10, 11], [0, 1, 2, 3, 4, 5, 6, 7, 8, 9, 10, 11, 12], [0, 1, 2, 3, 4, 5, 6, 7, 8, 9, 10, 11, 12], [0, 1, 2, 3, 4, 5, 6, 7, 8, 9, 10, 11, 12, 14], [0, 1, 2, 3, 4, 5, 6, 7, 8, 9, 10, 11, 12], [0, 1, 2, 3, 4, 5, 6, 7, 8, 9, 10, 11, 12, 16], [0, 1, 2, 3, 4, 5, 6, 7, 8, 9, 10, 11, 12, 16, 17], [0, 1, 2, 3, 4, 5, 6, 7, 8, 9, 10, 11, 12, 13, 14, 15, 16, 17, 18], [0, 1, 2, 3, 4, 5, 6, 7, 8, 9, 10, 11, 12, 13, 14, 15, 16, 17, 18, 19], [0, 1, 2, 3, 4, 5, 6, 7, 8, 9, 10, 11, 12, 13, 14, 15, 16, 17, 18, 19, 20], [0, 1, 2, 3, 4, 5, 6, 7, 8, 9, 10, 11, 12, 13, 14, 15, 16, 17, 18, 19, 20, 21], [0, 1, 2, 3, 4, 5, 6, 7, 8, 9, 10, 11, 12, 13, 14, 15, 16, 17, 18, 19, 20, 21, 22], [0, 1, 2, 3, 4, 5, 6, 7, 8, 9, 10, 11, 12, 13, 14, 15, 16, 17, 18, 19, 20, 21, 22], [0, 1, 2, 3, 4, 5, 6, 7, 8, 9, 10, 11, 12, 13, 14, 15, 16, 17, 18, 19, 20, 21, 22, 24], [0, 1, 2, 3, 4, 5, 6, 7, 8, 9, 10, 11, 12, 13, 14, 15, 16, 17, 18, 19, 20, 21, 22], [0, 1, 2, 3, 4, 5, 6, 7, 8, 9, 10, 11, 12, 13, 14, 15, 16, 17, 18, 19, 20, 21, 22, 26], [0, 1, 2, 3, 4, 5, 6, 7, 8, 9, 10, 11, 12, 13, 14, 15, 16, 17, 18, 19, 20, 21, 22, 26, 27], [0, 1, 2, 3, 4, 5, 6, 7, 8, 9, 10, 11, 12, 13, 14, 15, 16, 17, 18, 19, 20, 21, 22, 23, 24, 25, 26, 27, 28], [0, 1, 2, 3, 4, 5, 6, 7, 8, 9, 10, 11, 12, 13, 14, 15, 16, 17, 18, 19, 20, 21, 22, 23, 24, 25, 26, 27, 28, 29], [0, 1, 2, 3, 4, 5, 6, 7, 8, 9, 10, 11, 12, 13, 14, 15, 16, 17, 18, 19, 20, 21, 22, 23, 24, 25, 26, 27, 28, 29, 30]] (by simp) (by simp) (by simp [look]) rfl rfl rfl ?_ fun K hK => ?_
            · refine ⟨?_, ?_, ?_, ?_, ?_, ?_, ?_, ?_, ?_, ?_, ?_, ?_, ?_, ?_, ?_, ?_, ?_, ?_, ?_, ?_, ?_, ?_, ?_, ?_, ?_, ?_, ?_, ?_, ?_, trivial⟩
              all_goals (intro τ hbx hb hd hf K hK; try simp [vsAt] at hd; simp [vsAt] at hf; first | (refine wps_cons rfl fun K' hK' => ?_; simp [hN', hbx, hb, hd, hf, hb16, hb16s, hb23, hb23s, hb28, hb28s]; exact hK' _ (wps_nil (hK _ (by simp [vsAt, hbx, hb16, hb16s, hb23, hb23s, hb28, hb28s])))) | (refine wps_call [(.take, .tmp 33)] rfl rfl ent115 (impl_hasA_ok _ hc19) fun K' hK' => ?_; simp [hN', hbx, hb, hd, hf, hb16, hb16s, hb23, hb23s, hb28, hb28s]; exact hK' _ (wps_nil (hK _ (by simp [vsAt, hbx, hb16, hb16s, hb23, hb23s, hb28, hb28s])))) | (refine wps_call [(.take, .tmp 29), (.take, .tmp 31), (.take, .tmp 34)] rfl rfl ent114 (impl_isPlace_ok _ _ _ hc21) fun K' hK' => ?_; simp [hN', hbx, hb, hd, hf, hb16, hb16s, hb23, hb23s, hb28, hb28s]; exact hK' _ (wps_nil (hK _ (by simp [vsAt, hbx, hb16, hb16s, hb23, hb23s, hb28, hb28s])))) | (refine wps_call [(.take, .tmp 43)] rfl rfl ent116 (impl_hasB_ok _ hc25) fun K' hK' => ?_; simp [hN', hbx, hb, hd, hf, hb16, hb16s, hb23, hb23s, hb28, hb28s]; exact hK' _ (wps_nil (hK _ (by simp [vsAt, hbx, hb16, hb16s, hb23, hb23s, hb28, hb28s])))) | (refine wps_call [(.take, .tmp 39), (.take, .tmp 41), (.take, .tmp 44)] rfl rfl ent114 (impl_isPlace_ok _ _ _ hc27) fun K' hK' => ?_; simp [hN', hbx, hb, hd, hf, hb16, hb16s, hb23, hb23s, hb28, hb28s]; exact hK' _ (wps_nil (hK _ (by simp [vsAt, hbx, hb16, hb16s, hb23, hb23s, hb28, hb28s])))) | (refine wps_off fun K' hK' => ?_; simp [hN', hbx, hb, hd, hf, hb16, hb16s, hb23, hb23s, hb28, hb28s]; exact hK' _ (wps_nil (hK _ (by simp [vsAt, hbx, hb16, hb16s, hb23, hb23s, hb28, hb28s])))))
            iterate 2 (refine wps_off fun K hK => ?_; simp [hN', hb16, hb16s, hb23, hb23s, hb28, hb28s]; refine hK _ ?_; clear hK)
            refine wps_cons rfl fun K hK => ?_; simp [hN', hb16, hb16s, hb23, hb23s, hb28, hb28s]; refine hK _ ?_; clear hK
            refine wps_nil (hK _ ?_); clear hK
            cases hj14
            exact hK15 _ () [] trivial (by simp [hN', hb16, hb16s, hb23, hb23s, hb28, hb28s])
          · have hb29s := hb29
            try simp at hb29s
            obtain ⟨r30, hc31, hj14⟩ := bind_some hj14
            refine SWp.drawT rfl (hPB _ rfl) [(26, .t (vb none13)), (27, .t (vb (!none13))), (28, .t (vb (!none13))), (29, .t (GCode.enc false c1)), (30, .ref (.box 3) 1 []), (31, .t (vi x2.A)), (32, .ref (.box 3) 0 []), (33, .t (vi x2.Op)), (34, .t (vb r18)), (35, .t (vb r20)), (36, .t (vb (!r20))), (37, .t (vb (!r20))), (38, .t (vb (!r20))), (39, .t (GCode.enc false c1)), (40, .ref (.box 3) 2 []), (41, .t (vi x2.B)), (42, .ref (.box 3) 0 []), (43, .t (vi x2.Op)), (44, .t (vb r24)), (45, .t (vb r26)), (46, .t (vb (!r26))), (47, .t (vb (!r26))), (48, .t (vb (!r26))), (49, .t (GCode.enc false c1)), (50, .ref (.box 3) 3 []), (51, .t (vi x2.C)), (52, .ref (.box 3) 0 []), (53, .t (vi x2.Op)), (54, .t (vb r30))] [[], [0], [0, 1], [0, 1, 2], [0, 1, 2], [0, 1, 2, 4], [0, 1, 2], [0, 1, 2, 6], [0, 1, 2, 6, 7], [0, 1, 2, 3, 4, 5, 6, 7, 8], [0, 1, 2, 3, 4, 5, 6, 7, 8, 9], [0, 1, 2, 3, 4, 5, 6, 7, 8, 9, 10], [0, 1, 2, 3, 4, 5, 6, 7, 8, 9, 10, 11], [0, 1, 2, 3, 4, 5, 6, 7, 8, 9, 10, 11, 12], [0, 1, 2, 3, 4, 5, 6, 7, 8, 9, 10, 11, 12], [0, 1, 2, 3, 4, 5, 6, 7, 8, 9, 10, 11, 12, 14], [0, 1, 2, 3, 4, 5, 6, 7, 8, 9, 10, 11, 12], [0, 1, 2, 3, 4, 5, 6, 7, 8, 9, 10, 11, 12, 16], [0, 1, 2, 3, 4, 5, 6, 7, 8, 9, 10, 11, 12, 16, 17], [0, 1, 2, 3, 4, 5, 6, 7, 8, 9, 10, 11, 12, 13, 14, 15, 16, 17, 18], [0, 1, 2, 3, 4, 5, 6, 7, 8, 9, 10, 11, 12, 13, 14, 15, 16, 17, 18, 19], [0, 1, 2, 3, 4, 5, 6, 7, 8, 9, 10, 11, 12, 13, 14, 15, 16, 17, 18, 19, 20], [0, 1, 2, 3, 4, 5, 6, 7, 8, 9, 10, 11, 12, 13, 14, 15, 16, 17, 18, 19, 20, 21], [0, 1, 2, 3, 4, 5, 6, 7, 8, 9, 10, 11, 12, 13, 14, 15, 16, 17, 18, 19, 20, 21, 22], [0, 1, 2, 3, 4, 5, 6, 7, 8, 9, 10, 11, 12, 13, 14, 15, 16, 17, 18, 19, 20, 21, 22], [0, 1, 2, 3, 4, 5, 6, 7, 8, 9, 10, 11, 12, 13, 14, 15, 16, 17, 18, 19, 20, 21, 22, 24], [0, 1, 2, 3, 4, 5, 6, 7, 8, 9, 10, 11, 12, 13, 14, 15, 16, 17, 18, 19, 20, 21, 22], [0, 1, 2, 3, 4, 5, 6, 7, 8, 9, 10, 11, 12, 13, 14, 15, 16, 17, 18, 19, 20, 21, 22, 26], [0, 1, 2, 3, 4, 5, 6, 7, 8, 9, 10, 11, 12, 13, 14, 15, 16, 17, 18, 19, 20, 21, 22, 26, 27], [0, 1, 2, 3, 4, 5, 6, 7, 8, 9, 10, 11, 12, 13, 14, 15, 16, 17, 18, 19, 20, 21, 22, 23, 24, 25, 26, 27, 28], [0, 1, 2, 3, 4, 5, 6, 7, 8, 9, 10, 11, 12, 13, 14, 15, 16, 17, 18, 19, 20, 21, 22, 23, 24, 25, 26, 27, 28, 29], [0, 1, 2, 3, 4, 5, 6, 7, 8, 9, 10, 11, 12, 13, 14, 15, 16, 17, 18, 19, 20, 21, 22, 23, 24, 25, 26, 27, 28, 29, 30]] (by simp) (by simp) (by simp [look]) rfl rfl rfl ?_ fun K hK => ?_
            · refine ⟨?_, ?_, ?_, ?_, ?_, ?_, ?_, ?_, ?_, ?_, ?_, ?_, ?_, ?_, ?_, ?_, ?_, ?_, ?_, ?_, ?_, ?_, ?_, ?_, ?_, ?_, ?_, ?_, ?_, trivial⟩
              all_goals (intro τ hbx hb hd hf K hK; try simp [vsAt] at hd; simp [vsAt] at hf; first | (refine wps_cons rfl fun K' hK' => ?_; simp [hN', hbx, hb, hd, hf, hb16, hb16s, hb23, hb23s, hb29, hb29s]; exact hK' _ (wps_nil (hK _ (by simp [vsAt, hbx, hb16, hb16s, hb23, hb23s, hb29, hb29s])))) | (refine wps_call [(.take, .tmp 33)] rfl rfl ent115 (impl_hasA_ok _ hc19) fun K' hK' => ?_; simp [hN', hbx, hb, hd, hf, hb16, hb16s, hb23, hb23s, hb29, hb29s]; exact hK' _ (wps_nil (hK _ (by simp [vsAt, hbx, hb16, hb16s, hb23, hb23s, hb29, hb29s])))) | (refine wps_call [(.take, .tmp 29), (.take, .tmp 31), (.take, .tmp 34)] rfl rfl ent114 (impl_isPlace_ok _ _ _ hc21) fun K' hK' => ?_; simp [hN', hbx, hb, hd, hf, hb16, hb16s, hb23, hb23s, hb29, hb29s]; exact hK' _ (wps_nil (hK _ (by simp [vsAt, hbx, hb16, hb16s, hb23, hb23s, hb29, hb29s])))) | (refine wps_call [(.take, .tmp 43)] rfl rfl ent116 (impl_hasB_ok _ hc25) fun K' hK' => ?_; simp [hN', hbx, hb, hd, hf, hb16, hb16s, hb23, hb23s, hb29, hb29s]; exact hK' _ (wps_nil (hK _ (by simp [vsAt, hbx, hb16, hb16s, hb23, hb23s, hb29, hb29s])))) | (refine wps_call [(.take, .tmp 39), (.take, .tmp 41), (.take, .tmp 44)] rfl rfl ent114 (impl_isPlace_ok _ _ _ hc27) fun K' hK' => ?_; simp [hN', hbx, hb, hd, hf, hb16, hb16s, hb23, hb23s, hb29, hb29s]; exact hK' _ (wps_nil (hK _ (by simp [vsAt, hbx, hb16, hb16s, hb23, hb23s, hb29, hb29s])))) | (refine wps_call [(.take, .tmp 53)] rfl rfl ent117 (impl_hasC_ok _ hc31) fun K' hK' => ?_; simp [hN', hbx, hb, hd, hf, hb16, hb16s, hb23, hb23s, hb29, hb29s]; exact hK' _ (wps_nil (hK _ (by simp [vsAt, hbx, hb16, hb16s, hb23, hb23s, hb29, hb29s])))))
            obtain ⟨r32, hc33, hj14⟩ := bind_some hj14
            refine wps_call [(.take, .tmp 49), (.take, .tmp 51), (.take, .tmp 54)] rfl rfl ent114 (impl_isPlace_ok _ _ _ hc33) fun K hK => ?_; simp [hN', hb16, hb16s, hb23, hb23s, hb29, hb29s]; refine hK _ ?_; clear hK
            iterate 2 (refine wps_cons rfl fun K hK => ?_; simp [hN', hb16, hb16s, hb23, hb23s, hb29, hb29s]; refine hK _ ?_; clear hK)
            refine wps_nil (hK _ ?_); clear hK
            cases hj14
            exact hK15 _ () [] trivial (by simp [hN', hb16, hb16s, hb23, hb23s, hb29, hb29s])
      · have hb17s := hb17
        try simp at hb17s
        obtain ⟨r34, hc35, hj14⟩ := bind_some hj14
        obtain ⟨r36, hc37, hj14⟩ := bind_some hj14
        rcases ite_or hj14 with ⟨hb38, hj14⟩ | ⟨hb39, hj14⟩
        · have hb38s := hb38
          try simp at hb38s
          refine SWp.drawT rfl (hPB _ rfl) [(26, .t (vb none13)), (27, .t (vb (!none13))), (28, .t (vb (!none13))), (29, .tup []), (30, .tup []), (31, .tup []), (32, .tup []), (33, .tup []), (34, .tup []), (35, .tup []), (36, .tup []), (37, .t (vb false)), (38, .t (vb false)), (39, .t (GCode.enc false c1)), (40, .ref (.box 3) 2 []), (41, .t (vi x2.B)), (42, .ref (.box 3) 0 []), (43, .t (vi x2.Op)), (44, .t (vb r34)), (45, .t (vb r36)), (46, .t (vb (!r36))), (47, .t (vb (!r36))), (48, .t (vb (!r36))), (49, .tup []), (50, .tup []), (51, .tup []), (52, .tup []), (53, .tup []), (54, .tup [])] [[], [0], [0, 1], [0, 1, 2], [0, 1, 2], [0, 1, 2, 4], [0, 1, 2], [0, 1, 2, 6], [0, 1, 2, 6, 7], [0, 1, 2, 3, 4, 5, 6, 7, 8], [0, 1, 2, 3, 4, 5, 6, 7, 8, 9], [0, 1, 2, 3, 4, 5, 6, 7, 8, 9, 10], [0, 1, 2, 3, 4, 5, 6, 7, 8, 9, 10, 11], [0, 1, 2, 3, 4, 5, 6, 7, 8, 9, 10, 11, 12], [0, 1, 2, 3, 4, 5, 6, 7, 8, 9, 10, 11, 12], [0, 1, 2, 3, 4, 5, 6, 7, 8, 9, 10, 11, 12, 14], [0, 1, 2, 3, 4, 5, 6, 7, 8, 9, 10, 11, 12], [0, 1, 2, 3, 4, 5, 6, 7, 8, 9, 10, 11, 12, 16], [0, 1, 2, 3, 4, 5, 6, 7, 8, 9, 10, 11, 12, 16, 17], [0, 1, 2, 3, 4, 5, 6, 7, 8, 9, 10, 11, 12, 13, 14, 15, 16, 17, 18], [0, 1, 2, 3, 4, 5, 6, 7, 8, 9, 10, 11, 12, 13, 14, 15, 16, 17, 18, 19], [0, 1, 2, 3, 4, 5, 6, 7, 8, 9, 10, 11, 12, 13, 14, 15, 16, 17, 18, 19, 20], [0, 1, 2, 3, 4, 5, 6, 7, 8, 9, 10, 11, 12, 13, 14, 15, 16, 17, 18, 19, 20, 21], [0, 1, 2, 3, 4, 5, 6, 7, 8, 9, 10, 11, 12, 13, 14, 15, 16, 17, 18, 19, 20, 21, 22], [0, 1, 2, 3, 4, 5, 6, 7, 8, 9, 10, 11, 12, 13, 14, 15, 16, 17, 18, 19, 20, 21, 22], [0, 1, 2, 3, 4, 5, 6, 7, 8, 9, 10, 11, 12, 13, 14, 15, 16, 17, 18, 19, 20, 21, 22, 24], [0, 1, 2, 3, 4, 5, 6, 7, 8, 9, 10, 11, 12, 13, 14, 15, 16, 17, 18, 19, 20, 21, 22], [0, 1, 2, 3, 4, 5, 6, 7, 8, 9, 10, 11, 12, 13, 14, 15, 16, 17, 18, 19, 20, 21, 22, 26], [0, 1, 2, 3, 4, 5, 6, 7, 8, 9, 10, 11, 12, 13, 14, 15, 16, 17, 18, 19, 20, 21, 22, 26, 27], [0, 1, 2, 3, 4, 5, 6, 7, 8, 9, 10, 11, 12, 13, 14, 15, 16, 17, 18, 19, 20, 21, 22, 23, 24, 25, 26, 27, 28], [0, 1, 2, 3, 4, 5, 6, 7, 8, 9, 10, 11, 12, 13, 14, 15, 16, 17, 18, 19, 20, 21, 22, 23, 24, 25, 26, 27, 28, 29], [0, 1, 2, 3, 4, 5, 6, 7, 8, 9, 10, 11, 12, 13, 14, 15, 16, 17, 18, 19, 20, 21, 22, 23, 24, 25, 26, 27, 28, 29, 30]] (by simp) (by simp) (by simp [look]) rfl rfl rfl ?_ fun K hK => ?_
          · refine ⟨?_, ?_, ?_, ?_, ?_, ?_, ?_, ?_, ?_, ?_, ?_, ?_, ?_, ?_, ?_, ?_, ?_, ?_, ?_, ?_, ?_, ?_, ?_, ?_, ?_, ?_, ?_, ?_, ?_, trivial⟩
            all_goals (intro τ hbx hb hd hf K hK; try simp [vsAt] at hd; simp [vsAt] at hf; first | (refine wps_cons rfl fun K' hK' => ?_; simp [hN', hbx, hb, hd, hf, hb17, hb17s, hb38, hb38s]; exact hK' _ (wps_nil (hK _ (by simp [vsAt, hbx, hb17, hb17s, hb38, hb38s])))) | (refine wps_off fun K' hK' => ?_; simp [hN', hbx, hb, hd, hf, hb17, hb17s, hb38, hb38s]; exact hK' _ (wps_nil (hK _ (by simp [vsAt, hbx, hb17, hb17s, hb38, hb38s])))) | (refine wps_call [(.take, .tmp 43)] rfl rfl ent116 (impl_hasB_ok _ hc35) fun K' hK' => ?_; simp [hN', hbx, hb, hd, hf, hb17, hb17s, hb38, hb38s]; exact hK' _ (wps_nil (hK _ (by simp [vsAt, hbx, hb17, hb17s, hb38, hb38s])))) | (refine wps_call [(.take, .tmp 39), (.take, .tmp 41), (.take, .tmp 44)] rfl rfl ent114 (impl_isPlace_ok _ _ _ hc37) fun K' hK' => ?_; simp [hN', hbx, hb, hd, hf, hb17, hb17s, hb38, hb38s]; exact hK' _ (wps_nil (hK _ (by simp [vsAt, hbx, hb17, hb17s, hb38, hb38s])))))
          iterate 2 (refine wps_off fun K hK => ?_; simp [hN', hb17, hb17s, hb38, hb38s]; refine hK _ ?_; clear hK)
          refine wps_cons rfl fun K hK => ?_; simp [hN', hb17, hb17s, hb38, hb38s]; refine hK _ ?_; clear hK
          refine wps_nil (hK _ ?_); clear hK
          cases hj14
          exact hK15 _ () [] trivial (by simp [hN', hb17, hb17s, hb38, hb38s])
        · have hb39s := hb39
          try simp at hb39s
          obtain ⟨r40, hc41, hj14⟩ := bind_some hj14
          refine SWp.drawT rfl (hPB _ rfl) [(26, .t (vb none13)), (27, .t (vb (!none13))), (28, .t (vb (!none13))), (29, .tup []), (30, .tup []), (31, .tup []), (32, .tup []), (33, .tup []), (34, .tup []), (35, .tup []), (36, .tup []), (37, .t (vb false)), (38, .t (vb false)), (39, .t (GCode.enc false c1)), (40, .ref (.box 3) 2 []), (41, .t (vi x2.B)), (42, .ref (.box 3) 0 []), (43, .t (vi x2.Op)), (44, .t (vb r34)), (45, .t (vb r36)), (46, .t (vb (!r36))), (47, .t (vb (!r36))), (48, .t (vb (!r36))), (49, .t (GCode.enc false c1)), (50, .ref (.box 3) 3 []), (51, .t (vi x2.C)), (52, .ref (.box 3) 0 []), (53, .t (vi x2.Op)), (54, .t (vb r40))] [[], [0], [0, 1], [0, 1, 2], [0, 1, 2], [0, 1, 2, 4], [0, 1, 2], [0, 1, 2, 6], [0, 1, 2, 6, 7], [0, 1, 2, 3, 4, 5, 6, 7, 8], [0, 1, 2, 3, 4, 5, 6, 7, 8, 9], [0, 1, 2, 3, 4, 5, 6, 7, 8, 9, 10], [0, 1, 2, 3, 4, 5, 6, 7, 8, 9, 10, 11], [0, 1, 2, 3, 4, 5, 6, 7, 8, 9, 10, 11, 12], [0, 1, 2, 3, 4, 5, 6, 7, 8, 9, 10, 11, 12], [0, 1, 2, 3, 4, 5, 6, 7, 8, 9, 10, 11, 12, 14], [0, 1, 2, 3, 4, 5, 6, 7, 8, 9, 10, 11, 12], [0, 1, 2, 3, 4, 5, 6, 7, 8, 9, 10, 11, 12, 16], [0, 1, 2, 3, 4, 5, 6, 7, 8, 9, 10, 11, 12, 16, 17], [0, 1, 2, 3, 4, 5, 6, 7, 8, 9, 10, 11, 12, 13, 14, 15, 16, 17, 18], [0, 1, 2, 3, 4, 5, 6, 7, 8, 9, 10, 11, 12, 13, 14, 15, 16, 17, 18, 19], [0, 1, 2, 3, 4, 5, 6, 7, 8, 9, 10, 11, 12, 13, 14, 15, 16, 17, 18, 19, 20], [0, 1, 2, 3, 4, 5, 6, 7, 8, 9, 10, 11, 12, 13, 14, 15, 16, 17, 18, 19, 20, 21], [0, 1, 2, 3, 4, 5, 6, 7, 8, 9, 10, 11, 12, 13, 14, 15, 16, 17, 18, 19, 20, 21, 22], [0, 1, 2, 3, 4, 5, 6, 7, 8, 9, 10, 11, 12, 13, 14, 15, 16, 17, 18, 19, 20, 21, 22], [0, 1, 2, 3, 4, 5, 6, 7, 8, 9, 10, 11, 12, 13, 14, 15, 16, 17, 18, 19, 20, 21, 22, 24], [0, 1, 2, 3, 4, 5, 6, 7, 8, 9, 10, 11, 12, 13, 14, 15, 16, 17, 18, 19, 20, 21, 22], [0, 1, 2, 3, 4, 5, 6, 7, 8, 9, 10, 11, 12, 13, 14, 15, 16, 17, 18, 19, 20, 21, 22, 26], [0, 1, 2, 3, 4, 5, 6, 7, 8, 9, 10, 11, 12, 13, 14, 15, 16, 17, 18, 19, 20, 21, 22, 26, 27], [0, 1, 2, 3, 4, 5, 6, 7, 8, 9, 10, 11, 12, 13, 14, 15, 16, 17, 18, 19, 20, 21, 22, 23, 24, 25, 26, 27, 28], [0, 1, 2, 3, 4, 5, 6, 7, 8, 9, 10, 11, 12, 13, 14, 15, 16, 17, 18, 19, 20, 21, 22, 23, 24, 25, 26, 27, 28, 29], [0, 1, 2, 3, 4, 5, 6, 7, 8, 9, 10, 11, 12, 13, 14, 15, 16, 17, 18, 19, 20, 21, 22, 23, 24, 25, 26, 27, 28, 29, 30]] (by simp) (by simp) (by simp [look]) rfl rfl rfl ?_ fun K hK => ?_
          · refine ⟨?_, ?_, ?_, ?_, ?_, ?_, ?_, ?_, ?_, ?_, ?_, ?_, ?_, ?_, ?_, ?_, ?_, ?_, ?_, ?_, ?_, ?_, ?_, ?_, ?_, ?_, ?_, ?_, ?_, trivial⟩
            all_goals (intro τ hbx hb hd hf K hK; try simp [vsAt] at hd; simp [vsAt] at hf; first | (refine wps_cons rfl fun K' hK' => ?_; simp [hN', hbx, hb, hd, hf, hb17, hb17s, hb39, hb39s]; exact hK' _ (wps_nil (hK _ (by simp [vsAt, hbx, hb17, hb17s, hb39, hb39s])))) | (refine wps_off fun K' hK' => ?_; simp [hN', hbx, hb, hd, hf, hb17, hb17s, hb39, hb39s]; exact hK' _ (wps_nil (hK _ (by simp [vsAt, hbx, hb17, hb17s, hb39, hb39s])))) | (refine wps_call [(.take, .tmp 43)] rfl rfl ent116 (impl_hasB_ok _ hc35) fun K' hK' => ?_; simp [hN', hbx, hb, hd, hf, hb17, hb17s, hb39, hb39s]; exact hK' _ (wps_nil (hK _ (by simp [vsAt, hbx, hb17, hb17s, hb39, hb39s])))) | (refine wps_call [(.take, .tmp 39), (.take, .tmp 41), (.take, .tmp 44)] rfl rfl ent114 (impl_isPlace_ok _ _ _ hc37) fun K' hK' => ?_; simp [hN', hbx, hb, hd, hf, hb17, hb17s, hb39, hb39s]; exact hK' _ (wps_nil (hK _ (by simp [vsAt, hbx, hb17, hb17s, hb39, hb39s])))) | (refine wps_call [(.take, .tmp 53)] rfl rfl ent117 (impl_hasC_ok _ hc41) fun K' hK' => ?_; simp [hN', hbx, hb, hd, hf, hb17, hb17s, hb39, hb39s]; exact hK' _ (wps_nil (hK _ (by simp [vsAt, hbx, hb17, hb17s, hb39, hb39s])))))
          obtain ⟨r42, hc43, hj14⟩ := bind_some hj14
          refine wps_call [(.take, .tmp 49), (.take, .tmp 51), (.take, .tmp 54)] rfl rfl ent114 (impl_isPlace_ok _ _ _ hc43) fun K hK => ?_; simp [hN', hb17, hb17s, hb39, hb39s]; refine hK _ ?_; clear hK
          iterate 2 (refine wps_cons rfl fun K hK => ?_; simp [hN', hb17, hb17s, hb39, hb39s]; refine hK _ ?_; clear hK)
          refine wps_nil (hK _ ?_); clear hK
          cases hj14
          exact hK15 _ () [] trivial (by simp [hN', hb17, hb17s, hb39, hb39s])
    rcases ite_or h with ⟨hb45, h⟩ | ⟨hb46, h⟩
    · refine SWp.condT' (b := v44) (by simp) hb45 ?_
      refine SWp.seqR rfl (hPB _ rfl) fun K hK => ?_
      refine wps_cons rfl fun K hK => ?_; simp [hN']; refine hK _ ?_; clear hK
      refine wps_nil (hK _ ?_); clear hK
      cases h
      refine SWp.ret ?_
      simp [thenS, inBlockS, res87]
    · refine SWp.condF' (b := v44) (by simp) hb46 ?_
      refine SWp.skip ?_
      show SWp E C _ _ _
      refine SWp.seqR rfl (hPB _ rfl) fun K hK => ?_
      refine wps_cons rfl fun K hK => ?_; simp [hN']; refine hK _ ?_; clear hK
      refine wps_nil (hK _ ?_); clear hK
      obtain ⟨high60, hj47, h⟩ := bind_some h
      refine SWp.seqC [2, 3, 6] [2, 3] (fun _ : Unit => ⟨[(2, .ref (.box 2) 0 []), (3, .ref (.box 3) 0 []), (6, .t (vi high60))], [(2, [vs c1.Name, vi c1.Params, .sl false 1 (List.map vi c1.Locals), .sl false 7 (List.map (GIns.enc false) c1.Words)]), (3, [vi x2.Op, vi x2.A, vi x2.B, vi x2.C, vi x2.Num, vs x2.Name, .sl false 1 (List.map vi x2.Args)])]⟩) (fun _ => True) (fun _ _ => ?_) fun K48 hK48 => ?_
      rotate_left
      · refine SWp.seqR rfl (hPB _ rfl) fun K hK => ?_
        iterate 2 (refine wps_cons rfl fun K hK => ?_; simp [hN']; refine hK _ ?_; clear hK)
        refine wps_nil (hK _ ?_); clear hK
        refine SWp.block ?_
        refine SWp.seqR rfl (hPB _ rfl) fun K hK => ?_
        iterate 2 (refine wps_cons rfl fun K hK => ?_; simp [hN']; refine hK _ ?_; clear hK)
        refine wps_nil (hK _ ?_); clear hK
        rcases ite_or hj47 with ⟨hb50, hj47⟩ | ⟨hb51, hj47⟩
        · refine SWp.condT' (b := x2.Op == 1) (by simp) hb50 ?_
          refine SWp.reg rfl (hPB _ rfl) fun K hK => ?_
          refine wps_cons rfl fun K hK => ?_; simp [hN']; refine hK _ ?_; clear hK
          refine wps_nil (hK _ ?_); clear hK
          cases hj47
          exact hK48 _ () [] trivial (by simp [hN'])
        · refine SWp.condF' (b := x2.Op == 1) (by simp) hb51 ?_
          obtain ⟨v57, hj52, hj47⟩ := bind_some hj47
          refine SWp.seqC [2, 3, 6, 62] [2, 3] (fun _ : Unit => ⟨[(2, .ref (.box 2) 0 []), (3, .ref (.box 3) 0 []), (6, .t (vi 0)), (62, .t (vb v57))], [(2, [vs c1.Name, vi c1.Params, .sl false 1 (List.map vi c1.Locals), .sl false 7 (List.map (GIns.enc false) c1.Words)]), (3, [vi x2.Op, vi x2.A, vi x2.B, vi x2.C, vi x2.Num, vs x2.Name, .sl false 1 (List.map vi x2.Args)])]⟩) (fun _ => True) (fun _ _ => ?_) fun K53 hK53 => ?_
          rotate_left
          · refine SWp.seqR rfl (hPB _ rfl) fun K hK => ?_
            iterate 2 (refine wps_cons rfl fun K hK => ?_; simp [hN']; refine hK _ ?_; clear hK)
            refine wps_nil (hK _ ?_); clear hK
            rcases ite_or hj52 with ⟨hb55, hj52⟩ | ⟨hb56, hj52⟩
            · refine SWp.condT' (b := x2.Op == 18) (by simp) hb55 ?_
              refine SWp.skip ?_
              cases hj52
              exact hK53 _ () [] trivial (by simp [hN'])
            · refine SWp.condF' (b := x2.Op == 18) (by simp) hb56 ?_
              refine SWp.reg rfl (hPB _ rfl) fun K hK => ?_
              iterate 2 (refine wps_cons rfl fun K hK => ?_; simp [hN']; refine hK _ ?_; clear hK)
              refine wps_nil (hK _ ?_); clear hK
              cases hj52
              exact hK53 _ () [] trivial (by simp [hN'])
          rcases ite_or hj47 with ⟨hb58, hj47⟩ | ⟨hb59, hj47⟩
          · refine SWp.condT' (b := v57) (by simp) hb58 ?_
            refine SWp.reg rfl (hPB _ rfl) fun K hK => ?_
            iterate 5 (refine wps_cons rfl fun K hK => ?_; simp [hN']; refine hK _ ?_; clear hK)
            refine wps_nil (hK _ ?_); clear hK
            cases hj47
            exact hK48 _ () [] trivial (by simp [hN'])
          · refine SWp.condF' (b := v57) (by simp) hb59 ?_
            refine SWp.skip ?_
            cases hj47
            exact hK48 _ () [] trivial (by simp [hN'])
      refine SWp.seq ?_
      refine SWp.seqR rfl (hPB _ rfl) fun K hK => ?_
      iterate 3 (refine wps_cons rfl fun K hK => ?_; simp [hN']; refine hK _ ?_; clear hK)
      obtain ⟨r61, hc62, h⟩ := bind_some h
      refine wps_call [(.take, .tmp 70), (.take, .const (.int .i64 0)), (.take, .tmp 71)] rfl rfl ent66 (impl_in_ok _ _ _ hc62) fun K hK => ?_; simp [hN']; refine hK _ ?_; clear hK
      refine wps_cons rfl fun K hK => ?_; simp [hN']; refine hK _ ?_; clear hK
      refine wps_nil (hK _ ?_); clear hK
      rcases ite_or h with ⟨hb63, h⟩ | ⟨hb64, h⟩
      · refine SWp.condT' (b := !r61) (by simp) hb63 ?_
        refine SWp.seqR rfl (hPB _ rfl) fun K hK => ?_
        refine wps_cons rfl fun K hK => ?_; simp [hN']; refine hK _ ?_; clear hK
        refine wps_nil (hK _ ?_); clear hK
        cases h
        refine SWp.ret ?_
        simp [thenS, inBlockS, res87]
      · refine SWp.condF' (b := !r61) (by simp) hb64 ?_
        refine SWp.skip ?_
        show SWp E C _ _ _
        refine SWp.seq ?_
        refine SWp.seqR rfl (hPB _ rfl) fun K hK => ?_
        iterate 3 (refine wps_cons rfl fun K hK => ?_; simp [hN']; refine hK _ ?_; clear hK)
        refine wps_nil (hK _ ?_); clear hK
        rcases ite_or h with ⟨hb65, h⟩ | ⟨hb66, h⟩
        · refine SWp.condT' (b := x2.Op != 13) (by simp) hb65 ?_
          obtain ⟨v71, hj67, h⟩ := bind_some h
          refine SWp.seqRC rfl (hPB _ rfl) [4] [] (fun _ : Unit => ⟨[(4, .t (vb v71))], []⟩) (fun _ => True) (fun _ _ => ?_) fun K68 hK68 => ?_
          rotate_left
          · refine wps_cons rfl fun K hK => ?_; simp [hN']; refine hK _ ?_; clear hK
            iterate 3 (refine wps_cons rfl fun K hK => ?_; simp [hN']; refine hK _ ?_; clear hK)
            rcases ite_or hj67 with ⟨hb69, hj67⟩ | ⟨hb70, hj67⟩
            · have hb69s := hb69
              try simp at hb69s
              iterate 6 (refine wps_cons rfl fun K hK => ?_; simp [hN', hb69, hb69s]; refine hK _ ?_; clear hK)
              refine wps_nil ?_
              cases hj67
              exact hK68 _ () [] trivial (by simp [hN', hb69, hb69s])
            · have hb70s := hb70
              try simp at hb70s
              iterate 4 (refine wps_off fun K hK => ?_; simp [hN', hb70, hb70s]; refine hK _ ?_; clear hK)
              iterate 2 (refine wps_cons rfl fun K hK => ?_; simp [hN', hb70, hb70s]; refine hK _ ?_; clear hK)
              refine wps_nil ?_
              cases hj67
              exact hK68 _ () [] trivial (by simp [hN', hb70, hb70s])
          cases h
          refine SWp.ret ?_
          simp [thenS, inBlockS, res87]
        · refine SWp.condF' (b := x2.Op != 13) (by simp) hb66 ?_
          refine SWp.skip ?_
          show SWp E C _ _ _
          obtain ⟨j74, hj72, h⟩ := bind_some h
          refine SWp.seqC [3] [3] (fun v : Unit => ⟨[(3, .ref (.box 3) 0 [])], [(3, [vi x2.Op, vi x2.A, vi x2.B, vi x2.C, vi x2.Num, vs x2.Name, .sl false 1 (List.map vi x2.Args)])]⟩) (fun v => j74 = Sum.inl v) (fun v hv => ?_) fun K73 hK73 => ?_
          rotate_left
          · refine SWp.seqR rfl (hPB _ rfl) fun K hK => ?_
            iterate 4 (refine wps_cons rfl fun K hK => ?_; simp [hN']; refine hK _ ?_; clear hK)
            refine wps_nil (hK _ ?_); clear hK
            refine SWp.block ?_
            refine SWp.loopO [] [2, 3, 87, 88, 89] [2, 3] (fun v : Int => ⟨[(2, .ref (.box 2) 0 []), (3, .ref (.box 3) 0 []), (87, .t (.sl false 1 (List.map vi x2.Args))), (88, .t (vi (x2.Args.length : Int))), (89, .t (vi v))], [(2, [vs c1.Name, vi c1.Params, .sl false 1 (List.map vi c1.Locals), .sl false 7 (List.map (GIns.enc false) c1.Words)]), (3, [vi x2.Op, vi x2.A, vi x2.B, vi x2.C, vi x2.Num, vs x2.Name, .sl false 1 (List.map vi x2.Args)])]⟩) (impl_WordOk_l1 c1 x2) _ 0 hj72 (by simp [hN']) ?_
            intro g s78 h76 ho77
            obtain ⟨v75, hg⟩ : ∃ y, y = g := ⟨_, rfl⟩
            subst hg
            simp only [impl_WordOk_l1] at h76
            try dsimp only
            refine SWp.seqR rfl (hPB _ rfl) fun K hK => ?_
            refine wps_cons rfl fun K hK => ?_; simp [hN']; refine hK _ ?_; clear hK
            refine wps_nil (hK _ ?_); clear hK
            refine SWp.seq ?_
            rcases ite_or h76 with ⟨hb79, h76⟩ | ⟨hb80, h76⟩
            · refine SWp.condT' (b := decide (v75 < (x2.Args.length : Int))) (by simp) hb79 ?_
              refine SWp.skip ?_
              show SWp E C _ _ _
              refine SWp.seq ?_
              refine SWp.block ?_
              refine SWp.seqR rfl (hPB _ rfl) fun K hK => ?_
              obtain ⟨e81, he81, h76⟩ := bind_some h76
              obtain ⟨he81a, he81b, he81c, he81d⟩ := getI_some he81
              iterate 3 (refine wps_cons rfl fun K hK => ?_; simp [hN', he81a, he81b, he81c, he81d]; refine hK _ ?_; clear hK)
              refine wps_nil (hK _ ?_); clear hK
              refine SWp.seqR rfl (hPB _ rfl) fun K hK => ?_
              iterate 2 (refine wps_cons rfl fun K hK => ?_; simp [hN']; refine hK _ ?_; clear hK)
              obtain ⟨r82, hc83, h76⟩ := bind_some h76
              refine wps_call [(.take, .tmp 93), (.take, .tmp 94), (.take, .const (.bool true))] rfl rfl ent114 (impl_isPlace_ok _ _ _ hc83) fun K hK => ?_; simp [hN']; refine hK _ ?_; clear hK
              refine wps_cons rfl fun K hK => ?_; simp [hN']; refine hK _ ?_; clear hK
              refine wps_nil (hK _ ?_); clear hK
              rcases ite_or h76 with ⟨hb84, h76⟩ | ⟨hb85, h76⟩
              · refine SWp.condT' (b := !r82) (by simp) hb84 ?_
                refine SWp.seqR rfl (hPB _ rfl) fun K hK => ?_
                refine wps_cons rfl fun K hK => ?_; simp [hN']; refine hK _ ?_; clear hK
                refine wps_nil (hK _ ?_); clear hK
                have h86 := congrArg some (ho77 _ (Option.some.inj h76).symm)
                cases h86
                try dsimp only at h
                cases h
                refine SWp.ret ?_
                simp [thenS, inBlockS, res87]
              · refine SWp.condF' (b := !r82) (by simp) hb85 ?_
                refine SWp.skip ?_
                show SWp E C _ _ _
                refine SWp.reg rfl (hPB _ rfl) fun K hK => ?_
                iterate 2 (refine wps_cons rfl fun K hK => ?_; simp [hN']; refine hK _ ?_; clear hK)
                refine wps_nil (hK _ ?_); clear hK
                cases h76
                exact ⟨_, [], rfl, by simp [hN']⟩
            · refine SWp.condF' (b := decide (v75 < (x2.Args.length : Int))) (by simp) hb80 ?_
              refine SWp.exit ?_
              have h87 := congrArg some (ho77 _ (Option.some.inj h76).symm)
              cases h87
              exact hK73 _ _ [] rfl (by simp [hN'])
          subst hv
          obtain ⟨⟩ := v
          try dsimp only at h ⊢
          obtain ⟨v94, hj88, h⟩ := bind_some h
          refine SWp.seqRC rfl (hPB _ rfl) [4] [] (fun _ : Unit => ⟨[(4, .t (vb v94))], []⟩) (fun _ => True) (fun _ _ => ?_) fun K89 hK89 => ?_
          rotate_left
          · refine wps_cons rfl fun K hK => ?_; simp [hN']; refine hK _ ?_; clear hK
            refine wps_cons rfl fun K hK => ?_; simp [hN']; refine hK _ ?_; clear hK
            obtain ⟨r90, hc91, hj88⟩ := bind_some hj88
            refine wps_call [(.take, .tmp 99)] rfl rfl ent86 (impl_NameOk_ok _ hc91) fun K hK => ?_; simp [hN']; refine hK _ ?_; clear hK
            refine wps_cons rfl fun K hK => ?_; simp [hN']; refine hK _ ?_; clear hK
            rcases ite_or hj88 with ⟨hb92, hj88⟩ | ⟨hb93, hj88⟩
            · have hb92s := hb92
              try simp at hb92s
              iterate 6 (refine wps_cons rfl fun K hK => ?_; simp [hN', hb92, hb92s]; refine hK _ ?_; clear hK)
              refine wps_nil ?_
              cases hj88
              exact hK89 _ () [] trivial (by simp [hN', hb92, hb92s])
            · have hb93s := hb93
              try simp at hb93s
              iterate 4 (refine wps_off fun K hK => ?_; simp [hN', hb93, hb93s]; refine hK _ ?_; clear hK)
              iterate 2 (refine wps_cons rfl fun K hK => ?_; simp [hN', hb93, hb93s]; refine hK _ ?_; clear hK)
              refine wps_nil ?_
              cases hj88
              exact hK89 _ () [] trivial (by simp [hN', hb93, hb93s])
          cases h
          refine SWp.ret ?_
          simp [thenS, inBlockS, res87]
end Go.Proofs.T
set_option linter.unusedVariables false
set_option linter.unusedSimpArgs false
set_option maxHeartbeats 1000000
namespace Go.Proofs.T
open Go.OM
theorem res50 : Tryd.f50.results.toList = [.tmp 2] := rfl
theorem ent50 : Enters E.P 50 := enters_of Tryd.func50 (by simp [Tryd.f50]) rfl
theorem impl_CodeOk_ok (c1 : GCode) {r0 : Bool} (h : impl_CodeOk c1 = some r0) : Ok E 50 [.val (GCode.enc false c1)] [vb r0] [] := by
  refine ok_of_body (fn := Tryd.f50) Tryd.func50 rfl (by simp [Tryd.f50]) fun C hN hP => ?_
  have hPB : ∀ l, pinK [] l = true → pinB C.pin l = true := pinB_of (by rw [hP]; rfl)
  have hN' : C.N = 68 := hN
  clear hN
  unfold impl_CodeOk at h
  refine SWp.seqR rfl (hPB _ rfl) fun K hK => ?_
  iterate 2 (refine wps_cons rfl fun K hK => ?_; simp [hN']; refine hK _ ?_; clear hK)
  refine wps_nil (hK _ ?_); clear hK
  refine SWp.seqR rfl (hPB _ rfl) fun K hK => ?_
  iterate 4 (refine wps_cons rfl fun K hK => ?_; simp [hN']; refine hK _ ?_; clear hK)
  refine wps_nil (hK _ ?_); clear hK
  refine SWp.seq ?_
  obtain ⟨v19, hj2, h⟩ := bind_some h
  refine SWp.seqRC rfl (hPB _ rfl) [1, 44] [1] (fun _ : Unit => ⟨[(1, .ref (.box 1) 0 []), (44, .t (vb v19))], [(1, [vs c1.Name, vi c1.Params, .sl false 1 (List.map vi c1.Locals), .sl false 7 (List.map (GIns.enc false) c1.Words)])]⟩) (fun _ => True) (fun _ _ => ?_) fun K3 hK3 => ?_
  rotate_left
  · refine wps_cons rfl fun K hK => ?_; simp [hN']; refine hK _ ?_; clear hK
    refine wps_cons rfl fun K hK => ?_; simp [hN']; refine hK _ ?_; clear hK
    obtain ⟨r4, hc5, hj2⟩ := bind_some hj2
    refine wps_call [(.take, .tmp 12)] rfl rfl ent86 (impl_NameOk_ok _ hc5) fun K hK => ?_; simp [hN']; refine hK _ ?_; clear hK
    iterate 2 (refine wps_cons rfl fun K hK => ?_; simp [hN']; refine hK _ ?_; clear hK)
    rcases ite_or hj2 with ⟨hb6, hj2⟩ | ⟨hb7, hj2⟩
    · have hb6s := hb6
      try simp at hb6s
      iterate 4 (refine wps_off fun K hK => ?_; simp [hN', hb6, hb6s]; refine hK _ ?_; clear hK)
      iterate 2 (refine wps_cons rfl fun K hK => ?_; simp [hN', hb6, hb6s]; refine hK _ ?_; clear hK)
      iterate 7 (refine wps_off fun K hK => ?_; simp [hN', hb6, hb6s]; refine hK _ ?_; clear hK)
      iterate 2 (refine wps_cons rfl fun K hK => ?_; simp [hN', hb6, hb6s]; refine hK _ ?_; clear hK)
      iterate 3 (refine wps_off fun K hK => ?_; simp [hN', hb6, hb6s]; refine hK _ ?_; clear hK)
      iterate 2 (refine wps_cons rfl fun K hK => ?_; simp [hN', hb6, hb6s]; refine hK _ ?_; clear hK)
      iterate 8 (refine wps_off fun K hK => ?_; simp [hN', hb6, hb6s]; refine hK _ ?_; clear hK)
      refine wps_cons rfl fun K hK => ?_; simp [hN', hb6, hb6s]; refine hK _ ?_; clear hK
      refine wps_nil ?_
      cases hj2
      exact hK3 _ () [] trivial (by simp [hN', hb6, hb6s])
    · have hb7s := hb7
      try simp at hb7s
      iterate 6 (refine wps_cons rfl fun K hK => ?_; simp [hN', hb7, hb7s]; refine hK _ ?_; clear hK)
      rcases ite_or hj2 with ⟨hb8, hj2⟩ | ⟨hb9, hj2⟩
      · have hb8s := hb8
        try simp at hb8s
        iterate 7 (refine wps_off fun K hK => ?_; simp [hN', hb7, hb7s, hb8, hb8s]; refine hK _ ?_; clear hK)
        iterate 2 (refine wps_cons rfl fun K hK => ?_; simp [hN', hb7, hb7s, hb8, hb8s]; refine hK _ ?_; clear hK)
        iterate 3 (refine wps_off fun K hK => ?_; simp [hN', hb7, hb7s, hb8, hb8s]; refine hK _ ?_; clear hK)
        iterate 2 (refine wps_cons rfl fun K hK => ?_; simp [hN', hb7, hb7s, hb8, hb8s]; refine hK _ ?_; clear hK)
        iterate 8 (refine wps_off fun K hK => ?_; simp [hN', hb7, hb7s, hb8, hb8s]; refine hK _ ?_; clear hK)
        refine wps_cons rfl fun K hK => ?_; simp [hN', hb7, hb7s, hb8, hb8s]; refine hK _ ?_; clear hK
        refine wps_nil ?_
        cases hj2
        exact hK3 _ () [] trivial (by simp [hN', hb7, hb7s, hb8, hb8s])
      · have hb9s := hb9
        try simp at hb9s
        iterate 5 (refine wps_cons rfl fun K hK => ?_; simp [hN', hb7, hb7s, hb9, hb9s]; refine hK _ ?_; clear hK)
        obtain ⟨r10, hc11, hj2⟩ := bind_some hj2
        refine wps_call [(.take, .tmp 23), (.take, .const (.int .i64 0)), (.take, .tmp 26)] rfl rfl ent66 (impl_in_ok _ _ _ hc11) fun K hK => ?_; simp [hN', hb7, hb7s, hb9, hb9s]; refine hK _ ?_; clear hK
        iterate 3 (refine wps_cons rfl fun K hK => ?_; simp [hN', hb7, hb7s, hb9, hb9s]; refine hK _ ?_; clear hK)
        rcases ite_or hj2 with ⟨hb12, hj2⟩ | ⟨hb13, hj2⟩
        · have hb12s := hb12
          try simp at hb12s
          iterate 3 (refine wps_off fun K hK => ?_; simp [hN', hb7, hb7s, hb9, hb9s, hb12, hb12s]; refine hK _ ?_; clear hK)
          iterate 2 (refine wps_cons rfl fun K hK => ?_; simp [hN', hb7, hb7s, hb9, hb9s, hb12, hb12s]; refine hK _ ?_; clear hK)
          iterate 8 (refine wps_off fun K hK => ?_; simp [hN', hb7, hb7s, hb9, hb9s, hb12, hb12s]; refine hK _ ?_; clear hK)
          refine wps_cons rfl fun K hK => ?_; simp [hN', hb7, hb7s, hb9, hb9s, hb12, hb12s]; refine hK _ ?_; clear hK
          refine wps_nil ?_
          cases hj2
          exact hK3 _ () [] trivial (by simp [hN', hb7, hb7s, hb9, hb9s, hb12, hb12s])
        · have hb13s := hb13
          try simp at hb13s
          refine wps_cons rfl fun K hK => ?_; simp [hN', hb7, hb7s, hb9, hb9s, hb13, hb13s]; refine hK _ ?_; clear hK
          obtain ⟨r14, hc15, hj2⟩ := bind_some hj2
          refine wps_call [(.take, .tmp 31), (.take, .const (.int .i64 1)), (.take, .const (.int .i64 400))] rfl rfl ent66 (impl_in_ok _ _ _ hc15) fun K hK => ?_; simp [hN', hb7, hb7s, hb9, hb9s, hb13, hb13s]; refine hK _ ?_; clear hK
          iterate 3 (refine wps_cons rfl fun K hK => ?_; simp [hN', hb7, hb7s, hb9, hb9s, hb13, hb13s]; refine hK _ ?_; clear hK)
          rcases ite_or hj2 with ⟨hb16, hj2⟩ | ⟨hb17, hj2⟩
          · have hb16s := hb16
            try simp at hb16s
            iterate 8 (refine wps_off fun K hK => ?_; simp [hN', hb7, hb7s, hb9, hb9s, hb13, hb13s, hb16, hb16s]; refine hK _ ?_; clear hK)
            refine wps_cons rfl fun K hK => ?_; simp [hN', hb7, hb7s, hb9, hb9s, hb13, hb13s, hb16, hb16s]; refine hK _ ?_; clear hK
            refine wps_nil ?_
            cases hj2
            exact hK3 _ () [] trivial (by simp [hN', hb7, hb7s, hb9, hb9s, hb13, hb13s, hb16, hb16s])
          · have hb17s := hb17
            try simp at hb17s
            iterate 4 (refine wps_cons rfl fun K hK => ?_; simp [hN', hb7, hb7s, hb9, hb9s, hb13, hb13s, hb17, hb17s]; refine hK _ ?_; clear hK)
            obtain ⟨e18, he18, hj2⟩ := bind_some hj2
            obtain ⟨he18a, he18b, he18c, he18d⟩ := getI_some he18
            have he18j := he18b; try simp at he18j
            try simp only [Int.toNat_natCast] at he18c he18d
            iterate 5 (refine wps_cons rfl fun K hK => ?_; simp [hN', hb7, hb7s, hb9, hb9s, hb13, hb13s, hb17, hb17s, he18a, he18b, he18c, he18d, he18j]; refine hK _ ?_; clear hK)
            refine wps_nil ?_
            cases hj2
            exact hK3 _ () [] trivial (by simp [hN', hb7, hb7s, hb9, hb9s, hb13, hb13s, hb17, hb17s, he18a, he18b, he18c, he18d, he18j])
  rcases ite_or h with ⟨hb20, h⟩ | ⟨hb21, h⟩
  · refine SWp.condT' (b := v19) (by simp) hb20 ?_
    refine SWp.seqR rfl (hPB _ rfl) fun K hK => ?_
    refine wps_cons rfl fun K hK => ?_; simp [hN']; refine hK _ ?_; clear hK
    refine wps_nil (hK _ ?_); clear hK
    cases h
    refine SWp.ret ?_
    simp [thenS, inBlockS, res50]
  · refine SWp.condF' (b := v19) (by simp) hb21 ?_
    refine SWp.skip ?_
    show SWp E C _ _ _
    obtain ⟨j24, hj22, h⟩ := bind_some h
    refine SWp.seqC [1] [1] (fun v : Unit => ⟨[(1, .ref (.box 1) 0 [])], [(1, [vs c1.Name, vi c1.Params, .sl false 1 (List.map vi c1.Locals), .sl false 7 (List.map (GIns.enc false) c1.Words)])]⟩) (fun v => j24 = Sum.inl v) (fun v hv => ?_) fun K23 hK23 => ?_
    rotate_left
    · refine SWp.seqR rfl (hPB _ rfl) fun K hK => ?_
      iterate 4 (refine wps_cons rfl fun K hK => ?_; simp [hN']; refine hK _ ?_; clear hK)
      refine wps_nil (hK _ ?_); clear hK
      refine SWp.block ?_
      refine SWp.loopO [] [1, 46, 47, 48] [1] (fun v : Int => ⟨[(1, .ref (.box 1) 0 []), (46, .t (.sl false 1 (List.map vi c1.Locals))), (47, .t (vi (c1.Locals.length : Int))), (48, .t (vi v))], [(1, [vs c1.Name, vi c1.Params, .sl false 1 (List.map vi c1.Locals), .sl false 7 (List.map (GIns.enc false) c1.Words)])]⟩) (impl_CodeOk_l1 c1) _ 0 hj22 (by simp [hN']) ?_
      intro g s28 h26 ho27
      obtain ⟨v25, hg⟩ : ∃ y, y = g := ⟨_, rfl⟩
      subst hg
      simp only [impl_CodeOk_l1] at h26
      try dsimp only
      refine SWp.seqR rfl (hPB _ rfl) fun K hK => ?_
      refine wps_cons rfl fun K hK => ?_; simp [hN']; refine hK _ ?_; clear hK
      refine wps_nil (hK _ ?_); clear hK
      refine SWp.seq ?_
      rcases ite_or h26 with ⟨hb29, h26⟩ | ⟨hb30, h26⟩
      · refine SWp.condT' (b := decide (v25 < (c1.Locals.length : Int))) (by simp) hb29 ?_
        refine SWp.skip ?_
        show SWp E C _ _ _
        refine SWp.seq ?_
        refine SWp.block ?_
        refine SWp.seqR rfl (hPB _ rfl) fun K hK => ?_
        obtain ⟨e31, he31, h26⟩ := bind_some h26
        obtain ⟨he31a, he31b, he31c, he31d⟩ := getI_some he31
        iterate 3 (refine wps_cons rfl fun K hK => ?_; simp [hN', he31a, he31b, he31c, he31d]; refine hK _ ?_; clear hK)
        refine wps_nil (hK _ ?_); clear hK
        refine SWp.seqR rfl (hPB _ rfl) fun K hK => ?_
        refine wps_cons rfl fun K hK => ?_; simp [hN']; refine hK _ ?_; clear hK
        obtain ⟨r32, hc33, h26⟩ := bind_some h26
        refine wps_call [(.take, .tmp 52), (.take, .const (.int .i64 1)), (.take, .const (.int .i64 4))] rfl rfl ent66 (impl_in_ok _ _ _ hc33) fun K hK => ?_; simp [hN']; refine hK _ ?_; clear hK
        refine wps_cons rfl fun K hK => ?_; simp [hN']; refine hK _ ?_; clear hK
        refine wps_nil (hK _ ?_); clear hK
        rcases ite_or h26 with ⟨hb34, h26⟩ | ⟨hb35, h26⟩
        · refine SWp.condT' (b := !r32) (by simp) hb34 ?_
          refine SWp.seqR rfl (hPB _ rfl) fun K hK => ?_
          refine wps_cons rfl fun K hK => ?_; simp [hN']; refine hK _ ?_; clear hK
          refine wps_nil (hK _ ?_); clear hK
          have h36 := congrArg some (ho27 _ (Option.some.inj h26).symm)
          cases h36
          try dsimp only at h
          cases h
          refine SWp.ret ?_
          simp [thenS, inBlockS, res50]
        · refine SWp.condF' (b := !r32) (by simp) hb35 ?_
          refine SWp.skip ?_
          show SWp E C _ _ _
          refine SWp.reg rfl (hPB _ rfl) fun K hK => ?_
          iterate 2 (refine wps_cons rfl fun K hK => ?_; simp [hN']; refine hK _ ?_; clear hK)
          refine wps_nil (hK _ ?_); clear hK
          cases h26
          exact ⟨_, [], rfl, by simp [hN']⟩
      · refine SWp.condF' (b := decide (v25 < (c1.Locals.length : Int))) (by simp) hb30 ?_
        refine SWp.exit ?_
        have h37 := congrArg some (ho27 _ (Option.some.inj h26).symm)
        cases h37
        exact hK23 _ _ [] rfl (by simp [hN'])
    subst hv
    obtain ⟨⟩ := v
    try dsimp only at h ⊢
    obtain ⟨j40, hj38, h⟩ := bind_some h
    refine SWp.seqC [] [] (fun v : Unit => ⟨[], []⟩) (fun v => j40 = Sum.inl v) (fun v hv => ?_) fun K39 hK39 => ?_
    rotate_left
    · refine SWp.seqR rfl (hPB _ rfl) fun K hK => ?_
      iterate 4 (refine wps_cons rfl fun K hK => ?_; simp [hN']; refine hK _ ?_; clear hK)
      refine wps_nil (hK _ ?_); clear hK
      refine SWp.block ?_
      refine SWp.loopO [] [1, 57, 58, 59] [1] (fun v : Int => ⟨[(1, .ref (.box 1) 0 []), (57, .t (.sl false 7 (List.map (GIns.enc false) c1.Words))), (58, .t (vi (c1.Words.length : Int))), (59, .t (vi v))], [(1, [vs c1.Name, vi c1.Params, .sl false 1 (List.map vi c1.Locals), .sl false 7 (List.map (GIns.enc false) c1.Words)])]⟩) (impl_CodeOk_l2 c1) _ 0 hj38 (by simp [hN']) ?_
      intro g s44 h42 ho43
      obtain ⟨v41, hg⟩ : ∃ y, y = g := ⟨_, rfl⟩
      subst hg
      simp only [impl_CodeOk_l2] at h42
      try dsimp only
      refine SWp.seqR rfl (hPB _ rfl) fun K hK => ?_
      refine wps_cons rfl fun K hK => ?_; simp [hN']; refine hK _ ?_; clear hK
      refine wps_nil (hK _ ?_); clear hK
      refine SWp.seq ?_
      rcases ite_or h42 with ⟨hb45, h42⟩ | ⟨hb46, h42⟩
      · refine SWp.condT' (b := decide (v41 < (c1.Words.length : Int))) (by simp) hb45 ?_
        refine SWp.skip ?_
        show SWp E C _ _ _
        refine SWp.seq ?_
        refine SWp.block ?_
        refine SWp.seqR rfl (hPB _ rfl) fun K hK => ?_
        obtain ⟨e47, he47, h42⟩ := bind_some h42
        obtain ⟨he47a, he47b, he47c, he47d⟩ := getI_some he47
        iterate 4 (refine wps_cons rfl fun K hK => ?_; simp [hN', he47a, he47b, he47c, he47d]; refine hK _ ?_; clear hK)
        refine wps_nil (hK _ ?_); clear hK
        refine SWp.seqR rfl (hPB _ rfl) fun K hK => ?_
        iterate 2 (refine wps_cons rfl fun K hK => ?_; simp [hN']; refine hK _ ?_; clear hK)
        obtain ⟨r48, hc49, h42⟩ := bind_some h42
        refine wps_call [(.take, .tmp 63), (.take, .tmp 64)] rfl rfl ent87 (impl_WordOk_ok _ _ hc49) fun K hK => ?_; simp [hN']; refine hK _ ?_; clear hK
        refine wps_cons rfl fun K hK => ?_; simp [hN']; refine hK _ ?_; clear hK
        refine wps_nil (hK _ ?_); clear hK
        rcases ite_or h42 with ⟨hb50, h42⟩ | ⟨hb51, h42⟩
        · refine SWp.condT' (b := !r48) (by simp) hb50 ?_
          refine SWp.seqR rfl (hPB _ rfl) fun K hK => ?_
          refine wps_cons rfl fun K hK => ?_; simp [hN']; refine hK _ ?_; clear hK
          refine wps_nil (hK _ ?_); clear hK
          have h52 := congrArg some (ho43 _ (Option.some.inj h42).symm)
          cases h52
          try dsimp only at h
          cases h
          refine SWp.ret ?_
          simp [thenS, inBlockS, res50]
        · refine SWp.condF' (b := !r48) (by simp) hb51 ?_
          refine SWp.skip ?_
          show SWp E C _ _ _
          refine SWp.reg rfl (hPB _ rfl) fun K hK => ?_
          iterate 2 (refine wps_cons rfl fun K hK => ?_; simp [hN']; refine hK _ ?_; clear hK)
          refine wps_nil (hK _ ?_); clear hK
          cases h42
          exact ⟨_, [], rfl, by simp [hN']⟩
      · refine SWp.condF' (b := decide (v41 < (c1.Words.length : Int))) (by simp) hb46 ?_
        refine SWp.exit ?_
        have h53 := congrArg some (ho43 _ (Option.some.inj h42).symm)
        cases h53
        exact hK39 _ _ [] rfl (by simp [hN'])
    subst hv
    obtain ⟨⟩ := v
    try dsimp only at h ⊢
    refine SWp.seqR rfl (hPB _ rfl) fun K hK => ?_
    refine wps_cons rfl fun K hK => ?_; simp [hN']; refine hK _ ?_; clear hK
    refine wps_nil (hK _ ?_); clear hK
    cases h
    refine SWp.ret ?_
    simp [thenS, inBlockS, res50]
end Go.Proofs.T
set_option linter.unusedVariables false
set_option linter.unusedSimpArgs false
set_option maxHeartbeats 1000000
namespace Go.Proofs.T
open Go.OM
theorem res51 : Tryd.f51.results.toList = [.tmp 4] := rfl
theorem ent51 : Enters E.P 51 := enters_of Tryd.func51 (by simp [Tryd.f51]) rfl
theorem impl_Next_ok (c1 : GCode) (i2 : Int) {r0 : List Int} (h : impl_Next c1 i2 = some r0) : Ok E 51 [.val (GCode.enc false c1), .val (vi i2)] [.sl true 1 (List.map vi r0)] [] := by
  refine ok_of_body (fn := Tryd.f51) Tryd.func51 rfl (by simp [Tryd.f51]) fun C hN hP => ?_
  have hPB : ∀ l, pinK [] l = true → pinB C.pin l = true := pinB_of (by rw [hP]; rfl)
  have hN' : C.N = 59 := hN
  clear hN
  unfold impl_Next at h
  refine SWp.seqR rfl (hPB _ rfl) fun K hK => ?_
  iterate 2 (refine wps_cons rfl fun K hK => ?_; simp [hN']; refine hK _ ?_; clear hK)
  refine wps_nil (hK _ ?_); clear hK
  refine SWp.seq ?_
  refine SWp.seqR rfl (hPB _ rfl) fun K hK => ?_
  iterate 5 (refine wps_cons rfl fun K hK => ?_; simp [hN']; refine hK _ ?_; clear hK)
  obtain ⟨r3, hc4, h⟩ := bind_some h
  refine wps_call [(.take, .tmp 10), (.take, .const (.int .i64 0)), (.take, .tmp 14)] rfl rfl ent66 (impl_in_ok _ _ _ hc4) fun K hK => ?_; simp [hN']; refine hK _ ?_; clear hK
  refine wps_cons rfl fun K hK => ?_; simp [hN']; refine hK _ ?_; clear hK
  refine wps_nil (hK _ ?_); clear hK
  rcases ite_or h with ⟨hb5, h⟩ | ⟨hb6, h⟩
  · refine SWp.condT' (b := !r3) (by simp) hb5 ?_
    refine SWp.seqR rfl (hPB _ rfl) fun K hK => ?_
    refine wps_cons rfl fun K hK => ?_; simp [hN']; refine hK _ ?_; clear hK
    refine wps_nil (hK _ ?_); clear hK
    cases h
    refine SWp.ret ?_
    simp [thenS, inBlockS, res51]
  · refine SWp.condF' (b := !r3) (by simp) hb6 ?_
    refine SWp.skip ?_
    show SWp E C _ _ _
    refine SWp.seqR rfl (hPB _ rfl) fun K hK => ?_
    iterate 3 (refine wps_cons rfl fun K hK => ?_; simp [hN']; refine hK _ ?_; clear hK)
    obtain ⟨e7, he7, h⟩ := bind_some h
    obtain ⟨he7a, he7b, he7c, he7d⟩ := getI_some he7
    iterate 4 (refine wps_cons rfl fun K hK => ?_; simp [hN', he7a, he7b, he7c, he7d]; refine hK _ ?_; clear hK)
    refine wps_nil (hK _ ?_); clear hK
    refine SWp.seqR rfl (hPB _ rfl) fun K hK => ?_
    iterate 4 (refine wps_cons rfl fun K hK => ?_; simp [hN']; refine hK _ ?_; clear hK)
    refine wps_nil (hK _ ?_); clear hK
    obtain ⟨l18, hj8, h⟩ := bind_some h
    refine SWp.seqC [2, 6] [2] (fun _ : Unit => ⟨[(2, .ref (.box 2) 0 []), (6, .t (.sl true 1 (List.map vi l18)))], [(2, [vs c1.Name, vi c1.Params, .sl false 1 (List.map vi c1.Locals), .sl false 7 (List.map (GIns.enc false) c1.Words)])]⟩) (fun _ => True) (fun _ _ => ?_) fun K9 hK9 => ?_
    rotate_left
    · refine SWp.seqR rfl (hPB _ rfl) fun K hK => ?_
      iterate 2 (refine wps_cons rfl fun K hK => ?_; simp [hN']; refine hK _ ?_; clear hK)
      refine wps_nil (hK _ ?_); clear hK
      refine SWp.block ?_
      refine SWp.seqR rfl (hPB _ rfl) fun K hK => ?_
      iterate 2 (refine wps_cons rfl fun K hK => ?_; simp [hN']; refine hK _ ?_; clear hK)
      refine wps_nil (hK _ ?_); clear hK
      rcases ite_or hj8 with ⟨hb11, hj8⟩ | ⟨hb12, hj8⟩
      · refine SWp.condT' (b := e7.Op == 20) (by simp) hb11 ?_
        refine SWp.reg rfl (hPB _ rfl) fun K hK => ?_
        refine wps_cons rfl fun K hK => ?_; simp [hN']; refine hK _ ?_; clear hK
        refine wps_nil (hK _ ?_); clear hK
        cases hj8
        exact hK9 _ () [] trivial (by simp [hN'])
      · refine SWp.condF' (b := e7.Op == 20) (by simp) hb12 ?_
        refine SWp.seqR rfl (hPB _ rfl) fun K hK => ?_
        iterate 2 (refine wps_cons rfl fun K hK => ?_; simp [hN']; refine hK _ ?_; clear hK)
        refine wps_nil (hK _ ?_); clear hK
        rcases ite_or hj8 with ⟨hb13, hj8⟩ | ⟨hb14, hj8⟩
        · refine SWp.condT' (b := e7.Op == 18) (by simp) hb13 ?_
          refine SWp.reg rfl (hPB _ rfl) fun K hK => ?_
          iterate 4 (refine wps_cons rfl fun K hK => ?_; simp [hN']; refine hK _ ?_; clear hK)
          refine wps_nil (hK _ ?_); clear hK
          cases hj8
          exact hK9 _ () [] trivial (by simp [hN'])
        · refine SWp.condF' (b := e7.Op == 18) (by simp) hb14 ?_
          refine SWp.seqR rfl (hPB _ rfl) fun K hK => ?_
          iterate 2 (refine wps_cons rfl fun K hK => ?_; simp [hN']; refine hK _ ?_; clear hK)
          refine wps_nil (hK _ ?_); clear hK
          rcases ite_or hj8 with ⟨hb15, hj8⟩ | ⟨hb16, hj8⟩
          · refine SWp.condT' (b := e7.Op == 19) (by simp) hb15 ?_
            refine SWp.reg rfl (hPB _ rfl) fun K hK => ?_
            iterate 4 (refine wps_cons rfl fun K hK => ?_; simp [hN']; refine hK _ ?_; clear hK)
            obtain ⟨l17, hl17, hj8⟩ := bind_some hj8
            obtain ⟨hl17a, hl17b, hl17d⟩ := appI_some hl17
            have hl17f : List.map vi [IntKind.wrap .i64 (i2 + 1)] ++ List.map vi [e7.Num] = List.map vi l17 := app_map (f := vi) hl17d
            simp [eSl] at hl17a hl17b hl17f
            iterate 2 (refine wps_cons rfl fun K hK => ?_; simp [hN', hl17a, hl17b, hl17f]; refine hK _ ?_; clear hK)
            refine wps_nil (hK _ ?_); clear hK
            cases hj8
            exact hK9 _ () [] trivial (by simp [hN'])
          · refine SWp.condF' (b := e7.Op == 19) (by simp) hb16 ?_
            refine SWp.skip ?_
            cases hj8
            exact hK9 _ () [] trivial (by simp [hN'])
    refine SWp.seqR rfl (hPB _ rfl) fun K hK => ?_
    refine wps_cons rfl fun K hK => ?_; simp [hN']; refine hK _ ?_; clear hK
    refine wps_nil (hK _ ?_); clear hK
    obtain ⟨out36, hj19, h⟩ := bind_some h
    refine SWp.seqC [7] [] (fun _ : Unit => ⟨[(7, .t (.sl true 1 (List.map vi out36)))], []⟩) (fun _ => True) (fun _ _ => ?_) fun K20 hK20 => ?_
    rotate_left
    · refine SWp.seqR rfl (hPB _ rfl) fun K hK => ?_
      iterate 3 (refine wps_cons rfl fun K hK => ?_; simp [hN']; refine hK _ ?_; clear hK)
      refine wps_nil (hK _ ?_); clear hK
      refine SWp.block ?_
      refine SWp.loopO [] [2, 6, 7, 41, 42, 43] [2] (fun v : (List Int) × Int => ⟨[(2, .ref (.box 2) 0 []), (6, .t (.sl true 1 (List.map vi l18))), (7, .t (.sl true 1 (List.map vi v.1))), (41, .al (.slot 6) 0 [] none), (42, .t (vi (l18.length : Int))), (43, .t (vi v.2))], [(2, [vs c1.Name, vi c1.Params, .sl false 1 (List.map vi c1.Locals), .sl false 7 (List.map (GIns.enc false) c1.Words)])]⟩) (impl_Next_l1 c1 l18) _ ([], 0) hj19 (by simp [hN']) ?_
      intro g s26 h24 ho25
      obtain ⟨out22, v23⟩ := g
      simp only [impl_Next_l1] at h24
      try dsimp only
      refine SWp.seqR rfl (hPB _ rfl) fun K hK => ?_
      refine wps_cons rfl fun K hK => ?_; simp [hN']; refine hK _ ?_; clear hK
      refine wps_nil (hK _ ?_); clear hK
      refine SWp.seq ?_
      rcases ite_or h24 with ⟨hb27, h24⟩ | ⟨hb28, h24⟩
      · refine SWp.condT' (b := decide (v23 < (l18.length : Int))) (by simp) hb27 ?_
        refine SWp.skip ?_
        show SWp E C _ _ _
        refine SWp.seq ?_
        refine SWp.block ?_
        refine SWp.seqR rfl (hPB _ rfl) fun K hK => ?_
        obtain ⟨e29, he29, h24⟩ := bind_some h24
        obtain ⟨he29a, he29b, he29c, he29d⟩ := getI_some he29
        iterate 3 (refine wps_cons rfl fun K hK => ?_; simp [hN', he29a, he29b, he29c, he29d]; refine hK _ ?_; clear hK)
        refine wps_nil (hK _ ?_); clear hK
        refine SWp.seqR rfl (hPB _ rfl) fun K hK => ?_
        iterate 5 (refine wps_cons rfl fun K hK => ?_; simp [hN']; refine hK _ ?_; clear hK)
        obtain ⟨r30, hc31, h24⟩ := bind_some h24
        refine wps_call [(.take, .tmp 47), (.take, .const (.int .i64 0)), (.take, .tmp 51)] rfl rfl ent66 (impl_in_ok _ _ _ hc31) fun K hK => ?_; simp [hN']; refine hK _ ?_; clear hK
        refine wps_nil (hK _ ?_); clear hK
        rcases ite_or h24 with ⟨hb32, h24⟩ | ⟨hb33, h24⟩
        · refine SWp.condT' (b := r30) (by simp) hb32 ?_
          refine SWp.reg rfl (hPB _ rfl) fun K hK => ?_
          iterate 3 (refine wps_cons rfl fun K hK => ?_; simp [hN']; refine hK _ ?_; clear hK)
          obtain ⟨l34, hl34, h24⟩ := bind_some h24
          obtain ⟨hl34a, hl34b, hl34d⟩ := appI_some hl34
          have hl34f : List.map vi out22 ++ List.map vi [e29] = List.map vi l34 := app_map (f := vi) hl34d
          simp [eSl] at hl34a hl34b hl34f
          iterate 2 (refine wps_cons rfl fun K hK => ?_; simp [hN', hl34a, hl34b, hl34f]; refine hK _ ?_; clear hK)
          refine wps_nil (hK _ ?_); clear hK
          show SWp E C _ _ _
          refine SWp.reg rfl (hPB _ rfl) fun K hK => ?_
          iterate 2 (refine wps_cons rfl fun K hK => ?_; simp [hN']; refine hK _ ?_; clear hK)
          refine wps_nil (hK _ ?_); clear hK
          cases h24
          exact ⟨_, [], rfl, by simp [hN']⟩
        · refine SWp.condF' (b := r30) (by simp) hb33 ?_
          refine SWp.skip ?_
          show SWp E C _ _ _
          refine SWp.reg rfl (hPB _ rfl) fun K hK => ?_
          iterate 2 (refine wps_cons rfl fun K hK => ?_; simp [hN']; refine hK _ ?_; clear hK)
          refine wps_nil (hK _ ?_); clear hK
          cases h24
          exact ⟨_, [], rfl, by simp [hN']⟩
      · refine SWp.condF' (b := decide (v23 < (l18.length : Int))) (by simp) hb28 ?_
        refine SWp.exit ?_
        have h35 := congrArg some (ho25 _ (Option.some.inj h24).symm)
        cases h35
        exact hK20 _ () [] trivial (by simp [hN'])
    refine SWp.seqR rfl (hPB _ rfl) fun K hK => ?_
    iterate 2 (refine wps_cons rfl fun K hK => ?_; simp [hN']; refine hK _ ?_; clear hK)
    refine wps_nil (hK _ ?_); clear hK
    cases h
    refine SWp.ret ?_
    simp [thenS, inBlockS, res51]
end Go.Proofs.T
set_option linter.unusedVariables false
set_option linter.unusedSimpArgs false
set_option maxHeartbeats 1000000
namespace Go.Proofs.T
open Go.OM
theorem res69 : Tryd.f69.results.toList = [.tmp 4] := rfl
theorem ent69 : Enters E.P 69 := enters_of Tryd.func69 (by simp [Tryd.f69]) rfl
theorem impl_hasInt_ok (l1 : List Int) (n2 : Int) {r0 : Bool} (h : impl_hasInt l1 n2 = some r0) : Ok E 69 [.val (.sl false 1 (List.map vi l1)), .val (vi n2)] [vb r0] [] := by
  refine ok_of_body (fn := Tryd.f69) Tryd.func69 rfl (by simp [Tryd.f69]) fun C hN hP => ?_
  have hPB : ∀ l, pinK [] l = true → pinB C.pin l = true := pinB_of (by rw [hP]; rfl)
  have hN' : C.N = 17 := hN
  clear hN
  unfold impl_hasInt at h
  refine SWp.seqR rfl (hPB _ rfl) fun K hK => ?_
  refine wps_cons rfl fun K hK => ?_; simp [hN']; refine hK _ ?_; clear hK
  refine wps_nil (hK _ ?_); clear hK
  obtain ⟨j5, hj3, h⟩ := bind_some h
  refine SWp.seqC [] [] (fun v : Unit => ⟨[], []⟩) (fun v => j5 = Sum.inl v) (fun v hv => ?_) fun K4 hK4 => ?_
  rotate_left
  · refine SWp.seqR rfl (hPB _ rfl) fun K hK => ?_
    iterate 3 (refine wps_cons rfl fun K hK => ?_; simp [hN']; refine hK _ ?_; clear hK)
    refine wps_nil (hK _ ?_); clear hK
    refine SWp.block ?_
    refine SWp.loopO [] [1, 7, 8, 9] [] (fun v : Int => ⟨[(1, .t (vi n2)), (7, .t (.sl false 1 (List.map vi l1))), (8, .t (vi (l1.length : Int))), (9, .t (vi v))], []⟩) (impl_hasInt_l1 l1 n2) _ 0 hj3 (by simp [hN']) ?_
    intro g s9 h7 ho8
    obtain ⟨v6, hg⟩ : ∃ y, y = g := ⟨_, rfl⟩
    subst hg
    simp only [impl_hasInt_l1] at h7
    try dsimp only
    refine SWp.seqR rfl (hPB _ rfl) fun K hK => ?_
    refine wps_cons rfl fun K hK => ?_; simp [hN']; refine hK _ ?_; clear hK
    refine wps_nil (hK _ ?_); clear hK
    refine SWp.seq ?_
    rcases ite_or h7 with ⟨hb10, h7⟩ | ⟨hb11, h7⟩
    · refine SWp.condT' (b := decide (v6 < (l1.length : Int))) (by simp) hb10 ?_
      refine SWp.skip ?_
      show SWp E C _ _ _
      refine SWp.seq ?_
      refine SWp.block ?_
      refine SWp.seqR rfl (hPB _ rfl) fun K hK => ?_
      obtain ⟨e12, he12, h7⟩ := bind_some h7
      obtain ⟨he12a, he12b, he12c, he12d⟩ := getI_some he12
      iterate 3 (refine wps_cons rfl fun K hK => ?_; simp [hN', he12a, he12b, he12c, he12d]; refine hK _ ?_; clear hK)
      refine wps_nil (hK _ ?_); clear hK
      refine SWp.seqR rfl (hPB _ rfl) fun K hK => ?_
      iterate 3 (refine wps_cons rfl fun K hK => ?_; simp [hN']; refine hK _ ?_; clear hK)
      refine wps_nil (hK _ ?_); clear hK
      rcases ite_or h7 with ⟨hb13, h7⟩ | ⟨hb14, h7⟩
      · refine SWp.condT' (b := e12 == n2) (by simp) hb13 ?_
        refine SWp.seqR rfl (hPB _ rfl) fun K hK => ?_
        refine wps_cons rfl fun K hK => ?_; simp [hN']; refine hK _ ?_; clear hK
        refine wps_nil (hK _ ?_); clear hK
        have h15 := congrArg some (ho8 _ (Option.some.inj h7).symm)
        cases h15
        try dsimp only at h
        cases h
        refine SWp.ret ?_
        simp [thenS, inBlockS, res69]
      · refine SWp.condF' (b := e12 == n2) (by simp) hb14 ?_
        refine SWp.skip ?_
        show SWp E C _ _ _
        refine SWp.reg rfl (hPB _ rfl) fun K hK => ?_
        iterate 2 (refine wps_cons rfl fun K hK => ?_; simp [hN']; refine hK _ ?_; clear hK)
        refine wps_nil (hK _ ?_); clear hK
        cases h7
        exact ⟨_, [], rfl, by simp [hN']⟩
    · refine SWp.condF' (b := decide (v6 < (l1.length : Int))) (by simp) hb11 ?_
      refine SWp.exit ?_
      have h16 := congrArg some (ho8 _ (Option.some.inj h7).symm)
      cases h16
      exact hK4 _ _ [] rfl (by simp [hN'])
  subst hv
  obtain ⟨⟩ := v
  try dsimp only at h ⊢
  refine SWp.seqR rfl (hPB _ rfl) fun K hK => ?_
  refine wps_cons rfl fun K hK => ?_; simp [hN']; refine hK _ ?_; clear hK
  refine wps_nil (hK _ ?_); clear hK
  cases h
  refine SWp.ret ?_
  simp [thenS, inBlockS, res69]
end Go.Proofs.T
