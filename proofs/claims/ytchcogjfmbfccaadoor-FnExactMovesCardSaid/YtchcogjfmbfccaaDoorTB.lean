import Derived.Test.YtchcogjfmbfccaaDoorTA
import Derived.Shelf.Strconv.Itoa0
import Derived.Shelf.Strconv.Itoa1
import Derived.Shelf.LaysM
import Derived.Shelf.Strconv.Itoa2
import Derived.Shelf.Strconv.Itoa3
import Derived.Shelf.Strings.Search1
import Derived.Shelf.Strings.Search2
import Derived.Shelf.Strings.Search3
import Derived.Shelf.Strings.Count
import Derived.Shelf.Strings.Shaped
import Derived.Shelf.Strings.Split
import Derived.Shelf.Unicode.DecodeSlow
import Derived.Test.YtchcogjfmbfccaaDoorProg
set_option linter.unusedVariables false
set_option linter.unusedSimpArgs false
set_option maxHeartbeats 1000000
namespace Go.Proofs.T
open Go.OM
theorem res83 : Tryd.f83.results.toList = [.tmp 4] := rfl
theorem ent83 : Enters E.P 83 := enters_of Tryd.func83 (by simp [Tryd.f83]) rfl
theorem spec_WordOk_ok (c1 : GCode) (x2 : GIns) {r0 : Bool} (h : spec_WordOk c1 x2 = some r0) : Ok E 83 [.val (GCode.enc false c1), .val (GIns.enc false x2)] [vb r0] [] := by
  refine ok_of_body (fn := Tryd.f83) Tryd.func83 rfl (by simp [Tryd.f83]) fun C hN hP => ?_
  have hPB : ∀ l, pinK [] l = true → pinB C.pin l = true := pinB_of (by rw [hP]; rfl)
  have hN' : C.N = 116 := hN
  clear hN
  unfold spec_WordOk at h
  refine SWp.seqR rfl (hPB _ rfl) fun K hK => ?_
  iterate 3 (refine wps_cons rfl fun K hK => ?_; simp [hN']; refine hK _ ?_; clear hK)
  refine wps_nil (hK _ ?_); clear hK
  refine SWp.seq ?_
  obtain ⟨v11, hj3, h⟩ := bind_some h
  refine SWp.seqRC rfl (hPB _ rfl) [2, 3, 15] [2, 3] (fun _ : Unit => ⟨[(2, .ref (.box 2) 0 []), (3, .ref (.box 3) 0 []), (15, .t (vb v11))], [(2, [vs c1.Name, vi c1.Params, .sl false 1 (List.map vi c1.Locals), .sl false 7 (List.map (GIns.enc false) c1.Words)]), (3, [vi x2.Op, vi x2.A, vi x2.B, vi x2.C, vi x2.Num, vs x2.Name, .sl false 1 (List.map vi x2.Args)])]⟩) (fun _ => True) (fun _ _ => ?_) fun K4 hK4 => ?_
  rotate_left
  · refine wps_cons rfl fun K hK => ?_; simp [hN']; refine hK _ ?_; clear hK
    refine wps_cons rfl fun K hK => ?_; simp [hN']; refine hK _ ?_; clear hK
    obtain ⟨r5, hc6, hj3⟩ := bind_some hj3
    refine wps_call [(.take, .tmp 7), (.take, .const (.int .i64 1)), (.take, .const (.int .i64 20))] rfl rfl ent82 (spec_l01In_ok _ _ _ hc6) fun K hK => ?_; simp [hN']; refine hK _ ?_; clear hK
    iterate 2 (refine wps_cons rfl fun K hK => ?_; simp [hN']; refine hK _ ?_; clear hK)
    rcases ite_or hj3 with ⟨hb7, hj3⟩ | ⟨hb8, hj3⟩
    · have hb7s := hb7
      try simp at hb7s
      iterate 4 (refine wps_off fun K hK => ?_; simp [hN', hb7, hb7s]; refine hK _ ?_; clear hK)
      refine wps_cons rfl fun K hK => ?_; simp [hN', hb7, hb7s]; refine hK _ ?_; clear hK
      refine wps_nil ?_
      cases hj3
      exact hK4 _ () [] trivial (by simp [hN', hb7, hb7s])
    · have hb8s := hb8
      try simp at hb8s
      iterate 2 (refine wps_cons rfl fun K hK => ?_; simp [hN', hb8, hb8s]; refine hK _ ?_; clear hK)
      obtain ⟨r9, hc10, hj3⟩ := bind_some hj3
      refine wps_call [(.take, .tmp 11), (.take, .tmp 12)] rfl rfl ent109 (spec_l11A_ok _ _ hc10) fun K hK => ?_; simp [hN', hb8, hb8s]; refine hK _ ?_; clear hK
      iterate 2 (refine wps_cons rfl fun K hK => ?_; simp [hN', hb8, hb8s]; refine hK _ ?_; clear hK)
      refine wps_nil ?_
      cases hj3
      exact hK4 _ () [] trivial (by simp [hN', hb8, hb8s])
  rcases ite_or h with ⟨hb12, h⟩ | ⟨hb13, h⟩
  · refine SWp.condT' (b := v11) (by simp) hb12 ?_
    refine SWp.seqR rfl (hPB _ rfl) fun K hK => ?_
    refine wps_cons rfl fun K hK => ?_; simp [hN']; refine hK _ ?_; clear hK
    refine wps_nil (hK _ ?_); clear hK
    cases h
    refine SWp.ret ?_
    simp [thenS, inBlockS, res83]
  · refine SWp.condF' (b := v11) (by simp) hb13 ?_
    refine SWp.skip ?_
    show SWp E C _ _ _
    refine SWp.seq ?_
    obtain ⟨v32, hj14, h⟩ := bind_some h
    refine SWp.seqRC rfl (hPB _ rfl) [2, 3, 36] [2, 3] (fun _ : Unit => ⟨[(2, .ref (.box 2) 0 []), (3, .ref (.box 3) 0 []), (36, .t (vb v32))], [(2, [vs c1.Name, vi c1.Params, .sl false 1 (List.map vi c1.Locals), .sl false 7 (List.map (GIns.enc false) c1.Words)]), (3, [vi x2.Op, vi x2.A, vi x2.B, vi x2.C, vi x2.Num, vs x2.Name, .sl false 1 (List.map vi x2.Args)])]⟩) (fun _ => True) (fun _ _ => ?_) fun K15 hK15 => ?_
    rotate_left
    · refine wps_cons rfl fun K hK => ?_; simp [hN']; refine hK _ ?_; clear hK
      refine wps_cons rfl fun K hK => ?_; simp [hN']; refine hK _ ?_; clear hK
      obtain ⟨r16, hc17, hj14⟩ := bind_some hj14
      refine wps_call [(.take, .tmp 17)] rfl rfl ent101 (spec_l11HasB_ok _ hc17) fun K hK => ?_; simp [hN']; refine hK _ ?_; clear hK
      refine wps_cons rfl fun K hK => ?_; simp [hN']; refine hK _ ?_; clear hK
      rcases ite_or hj14 with ⟨hb18, hj14⟩ | ⟨hb19, hj14⟩
      · have hb18s := hb18
        try simp at hb18s
        iterate 3 (refine wps_cons rfl fun K hK => ?_; simp [hN', hb18, hb18s]; refine hK _ ?_; clear hK)
        obtain ⟨r20, hc21, hj14⟩ := bind_some hj14
        refine wps_call [(.take, .tmp 20), (.take, .tmp 22)] rfl rfl ent110 (spec_l11Place_ok _ _ hc21) fun K hK => ?_; simp [hN', hb18, hb18s]; refine hK _ ?_; clear hK
        iterate 3 (refine wps_cons rfl fun K hK => ?_; simp [hN', hb18, hb18s]; refine hK _ ?_; clear hK)
        rcases ite_or hj14 with ⟨hb22, hj14⟩ | ⟨hb23, hj14⟩
        · have hb22s := hb22
          try simp at hb22s
          iterate 9 (refine wps_off fun K hK => ?_; simp [hN', hb18, hb18s, hb22, hb22s]; refine hK _ ?_; clear hK)
          refine wps_cons rfl fun K hK => ?_; simp [hN', hb18, hb18s, hb22, hb22s]; refine hK _ ?_; clear hK
          refine wps_nil ?_
          cases hj14
          exact hK15 _ () [] trivial (by simp [hN', hb18, hb18s, hb22, hb22s])
        · have hb23s := hb23
          try simp at hb23s
          iterate 2 (refine wps_cons rfl fun K hK => ?_; simp [hN', hb18, hb18s, hb23, hb23s]; refine hK _ ?_; clear hK)
          obtain ⟨r24, hc25, hj14⟩ := bind_some hj14
          refine wps_call [(.take, .tmp 28)] rfl rfl ent101 (spec_l11HasB_ok _ hc25) fun K hK => ?_; simp [hN', hb18, hb18s, hb23, hb23s]; refine hK _ ?_; clear hK
          iterate 2 (refine wps_cons rfl fun K hK => ?_; simp [hN', hb18, hb18s, hb23, hb23s]; refine hK _ ?_; clear hK)
          rcases ite_or hj14 with ⟨hb26, hj14⟩ | ⟨hb27, hj14⟩
          · have hb26s := hb26
            try simp at hb26s
            iterate 5 (refine wps_cons rfl fun K hK => ?_; simp [hN', hb18, hb18s, hb23, hb23s, hb26, hb26s]; refine hK _ ?_; clear hK)
            refine wps_nil ?_
            cases hj14
            exact hK15 _ () [] trivial (by simp [hN', hb18, hb18s, hb23, hb23s, hb26, hb26s])
          · have hb27s := hb27
            try simp at hb27s
            iterate 3 (refine wps_off fun K hK => ?_; simp [hN', hb18, hb18s, hb23, hb23s, hb27, hb27s]; refine hK _ ?_; clear hK)
            iterate 2 (refine wps_cons rfl fun K hK => ?_; simp [hN', hb18, hb18s, hb23, hb23s, hb27, hb27s]; refine hK _ ?_; clear hK)
            refine wps_nil ?_
            cases hj14
            exact hK15 _ () [] trivial (by simp [hN', hb18, hb18s, hb23, hb23s, hb27, hb27s])
      · have hb19s := hb19
        try simp at hb19s
        iterate 5 (refine wps_off fun K hK => ?_; simp [hN', hb19, hb19s]; refine hK _ ?_; clear hK)
        iterate 4 (refine wps_cons rfl fun K hK => ?_; simp [hN', hb19, hb19s]; refine hK _ ?_; clear hK)
        obtain ⟨r28, hc29, hj14⟩ := bind_some hj14
        refine wps_call [(.take, .tmp 28)] rfl rfl ent101 (spec_l11HasB_ok _ hc29) fun K hK => ?_; simp [hN', hb19, hb19s]; refine hK _ ?_; clear hK
        iterate 2 (refine wps_cons rfl fun K hK => ?_; simp [hN', hb19, hb19s]; refine hK _ ?_; clear hK)
        rcases ite_or hj14 with ⟨hb30, hj14⟩ | ⟨hb31, hj14⟩
        · have hb30s := hb30
          try simp at hb30s
          iterate 5 (refine wps_cons rfl fun K hK => ?_; simp [hN', hb19, hb19s, hb30, hb30s]; refine hK _ ?_; clear hK)
          refine wps_nil ?_
          cases hj14
          exact hK15 _ () [] trivial (by simp [hN', hb19, hb19s, hb30, hb30s])
        · have hb31s := hb31
          try simp at hb31s
          iterate 3 (refine wps_off fun K hK => ?_; simp [hN', hb19, hb19s, hb31, hb31s]; refine hK _ ?_; clear hK)
          iterate 2 (refine wps_cons rfl fun K hK => ?_; simp [hN', hb19, hb19s, hb31, hb31s]; refine hK _ ?_; clear hK)
          refine wps_nil ?_
          cases hj14
          exact hK15 _ () [] trivial (by simp [hN', hb19, hb19s, hb31, hb31s])
    rcases ite_or h with ⟨hb33, h⟩ | ⟨hb34, h⟩
    · refine SWp.condT' (b := v32) (by simp) hb33 ?_
      refine SWp.seqR rfl (hPB _ rfl) fun K hK => ?_
      refine wps_cons rfl fun K hK => ?_; simp [hN']; refine hK _ ?_; clear hK
      refine wps_nil (hK _ ?_); clear hK
      cases h
      refine SWp.ret ?_
      simp [thenS, inBlockS, res83]
    · refine SWp.condF' (b := v32) (by simp) hb34 ?_
      refine SWp.skip ?_
      show SWp E C _ _ _
      refine SWp.seq ?_
      obtain ⟨v53, hj35, h⟩ := bind_some h
      refine SWp.seqRC rfl (hPB _ rfl) [2, 3, 57] [2, 3] (fun _ : Unit => ⟨[(2, .ref (.box 2) 0 []), (3, .ref (.box 3) 0 []), (57, .t (vb v53))], [(2, [vs c1.Name, vi c1.Params, .sl false 1 (List.map vi c1.Locals), .sl false 7 (List.map (GIns.enc false) c1.Words)]), (3, [vi x2.Op, vi x2.A, vi x2.B, vi x2.C, vi x2.Num, vs x2.Name, .sl false 1 (List.map vi x2.Args)])]⟩) (fun _ => True) (fun _ _ => ?_) fun K36 hK36 => ?_
      rotate_left
      · refine wps_cons rfl fun K hK => ?_; simp [hN']; refine hK _ ?_; clear hK
        refine wps_cons rfl fun K hK => ?_; simp [hN']; refine hK _ ?_; clear hK
        obtain ⟨r37, hc38, hj35⟩ := bind_some hj35
        refine wps_call [(.take, .tmp 38)] rfl rfl ent102 (spec_l11HasC_ok _ hc38) fun K hK => ?_; simp [hN']; refine hK _ ?_; clear hK
        refine wps_cons rfl fun K hK => ?_; simp [hN']; refine hK _ ?_; clear hK
        rcases ite_or hj35 with ⟨hb39, hj35⟩ | ⟨hb40, hj35⟩
        · have hb39s := hb39
          try simp at hb39s
          iterate 3 (refine wps_cons rfl fun K hK => ?_; simp [hN', hb39, hb39s]; refine hK _ ?_; clear hK)
          obtain ⟨r41, hc42, hj35⟩ := bind_some hj35
          refine wps_call [(.take, .tmp 41), (.take, .tmp 43)] rfl rfl ent110 (spec_l11Place_ok _ _ hc42) fun K hK => ?_; simp [hN', hb39, hb39s]; refine hK _ ?_; clear hK
          iterate 3 (refine wps_cons rfl fun K hK => ?_; simp [hN', hb39, hb39s]; refine hK _ ?_; clear hK)
          rcases ite_or hj35 with ⟨hb43, hj35⟩ | ⟨hb44, hj35⟩
          · have hb43s := hb43
            try simp at hb43s
            iterate 9 (refine wps_off fun K hK => ?_; simp [hN', hb39, hb39s, hb43, hb43s]; refine hK _ ?_; clear hK)
            refine wps_cons rfl fun K hK => ?_; simp [hN', hb39, hb39s, hb43, hb43s]; refine hK _ ?_; clear hK
            refine wps_nil ?_
            cases hj35
            exact hK36 _ () [] trivial (by simp [hN', hb39, hb39s, hb43, hb43s])
          · have hb44s := hb44
            try simp at hb44s
            iterate 2 (refine wps_cons rfl fun K hK => ?_; simp [hN', hb39, hb39s, hb44, hb44s]; refine hK _ ?_; clear hK)
            obtain ⟨r45, hc46, hj35⟩ := bind_some hj35
            refine wps_call [(.take, .tmp 49)] rfl rfl ent102 (spec_l11HasC_ok _ hc46) fun K hK => ?_; simp [hN', hb39, hb39s, hb44, hb44s]; refine hK _ ?_; clear hK
            iterate 2 (refine wps_cons rfl fun K hK => ?_; simp [hN', hb39, hb39s, hb44, hb44s]; refine hK _ ?_; clear hK)
            rcases ite_or hj35 with ⟨hb47, hj35⟩ | ⟨hb48, hj35⟩
            · have hb47s := hb47
              try simp at hb47s
              iterate 5 (refine wps_cons rfl fun K hK => ?_; simp [hN', hb39, hb39s, hb44, hb44s, hb47, hb47s]; refine hK _ ?_; clear hK)
              refine wps_nil ?_
              cases hj35
              exact hK36 _ () [] trivial (by simp [hN', hb39, hb39s, hb44, hb44s, hb47, hb47s])
            · have hb48s := hb48
              try simp at hb48s
              iterate 3 (refine wps_off fun K hK => ?_; simp [hN', hb39, hb39s, hb44, hb44s, hb48, hb48s]; refine hK _ ?_; clear hK)
              iterate 2 (refine wps_cons rfl fun K hK => ?_; simp [hN', hb39, hb39s, hb44, hb44s, hb48, hb48s]; refine hK _ ?_; clear hK)
              refine wps_nil ?_
              cases hj35
              exact hK36 _ () [] trivial (by simp [hN', hb39, hb39s, hb44, hb44s, hb48, hb48s])
        · have hb40s := hb40
          try simp at hb40s
          iterate 5 (refine wps_off fun K hK => ?_; simp [hN', hb40, hb40s]; refine hK _ ?_; clear hK)
          iterate 4 (refine wps_cons rfl fun K hK => ?_; simp [hN', hb40, hb40s]; refine hK _ ?_; clear hK)
          obtain ⟨r49, hc50, hj35⟩ := bind_some hj35
          refine wps_call [(.take, .tmp 49)] rfl rfl ent102 (spec_l11HasC_ok _ hc50) fun K hK => ?_; simp [hN', hb40, hb40s]; refine hK _ ?_; clear hK
          iterate 2 (refine wps_cons rfl fun K hK => ?_; simp [hN', hb40, hb40s]; refine hK _ ?_; clear hK)
          rcases ite_or hj35 with ⟨hb51, hj35⟩ | ⟨hb52, hj35⟩
          · have hb51s := hb51
            try simp at hb51s
            iterate 5 (refine wps_cons rfl fun K hK => ?_; simp [hN', hb40, hb40s, hb51, hb51s]; refine hK _ ?_; clear hK)
            refine wps_nil ?_
            cases hj35
            exact hK36 _ () [] trivial (by simp [hN', hb40, hb40s, hb51, hb51s])
          · have hb52s := hb52
            try simp at hb52s
            iterate 3 (refine wps_off fun K hK => ?_; simp [hN', hb40, hb40s, hb52, hb52s]; refine hK _ ?_; clear hK)
            iterate 2 (refine wps_cons rfl fun K hK => ?_; simp [hN', hb40, hb40s, hb52, hb52s]; refine hK _ ?_; clear hK)
            refine wps_nil ?_
            cases hj35
            exact hK36 _ () [] trivial (by simp [hN', hb40, hb40s, hb52, hb52s])
      rcases ite_or h with ⟨hb54, h⟩ | ⟨hb55, h⟩
      · refine SWp.condT' (b := v53) (by simp) hb54 ?_
        refine SWp.seqR rfl (hPB _ rfl) fun K hK => ?_
        refine wps_cons rfl fun K hK => ?_; simp [hN']; refine hK _ ?_; clear hK
        refine wps_nil (hK _ ?_); clear hK
        cases h
        refine SWp.ret ?_
        simp [thenS, inBlockS, res83]
      · refine SWp.condF' (b := v53) (by simp) hb55 ?_
        refine SWp.skip ?_
        show SWp E C _ _ _
        obtain ⟨j58, hj56, h⟩ := bind_some h
        refine SWp.seqC [2, 3] [2, 3] (fun v : Unit => ⟨[(2, .ref (.box 2) 0 []), (3, .ref (.box 3) 0 [])], [(2, [vs c1.Name, vi c1.Params, .sl false 1 (List.map vi c1.Locals), .sl false 7 (List.map (GIns.enc false) c1.Words)]), (3, [vi x2.Op, vi x2.A, vi x2.B, vi x2.C, vi x2.Num, vs x2.Name, .sl false 1 (List.map vi x2.Args)])]⟩) (fun v => j58 = Sum.inl v) (fun v hv => ?_) fun K57 hK57 => ?_
        rotate_left
        · refine SWp.seqR rfl (hPB _ rfl) fun K hK => ?_
          iterate 2 (refine wps_cons rfl fun K hK => ?_; simp [hN']; refine hK _ ?_; clear hK)
          refine wps_nil (hK _ ?_); clear hK
          refine SWp.block ?_
          refine SWp.seqR rfl (hPB _ rfl) fun K hK => ?_
          iterate 2 (refine wps_cons rfl fun K hK => ?_; simp [hN']; refine hK _ ?_; clear hK)
          refine wps_nil (hK _ ?_); clear hK
          rcases ite_or hj56 with ⟨hb59, hj56⟩ | ⟨hb60, hj56⟩
          · refine SWp.condT' (b := x2.Op == 1) (by simp) hb59 ?_
            refine SWp.seqR rfl (hPB _ rfl) fun K hK => ?_
            iterate 2 (refine wps_cons rfl fun K hK => ?_; simp [hN']; refine hK _ ?_; clear hK)
            obtain ⟨r61, hc62, hj56⟩ := bind_some hj56
            refine wps_call [(.take, .tmp 66), (.take, .const (.int .i64 0)), (.take, .const (.int .i64 1000000000))] rfl rfl ent82 (spec_l01In_ok _ _ _ hc62) fun K hK => ?_; simp [hN']; refine hK _ ?_; clear hK
            refine wps_cons rfl fun K hK => ?_; simp [hN']; refine hK _ ?_; clear hK
            refine wps_nil (hK _ ?_); clear hK
            rcases ite_or hj56 with ⟨hb63, hj56⟩ | ⟨hb64, hj56⟩
            · refine SWp.condT' (b := !r61) (by simp) hb63 ?_
              refine SWp.seqR rfl (hPB _ rfl) fun K hK => ?_
              refine wps_cons rfl fun K hK => ?_; simp [hN']; refine hK _ ?_; clear hK
              refine wps_nil (hK _ ?_); clear hK
              cases hj56
              try dsimp only at h
              cases h
              refine SWp.ret ?_
              simp [thenS, inBlockS, res83]
            · refine SWp.condF' (b := !r61) (by simp) hb64 ?_
              refine SWp.skip ?_
              cases hj56
              exact hK57 _ _ [] rfl (by simp [hN'])
          · refine SWp.condF' (b := x2.Op == 1) (by simp) hb60 ?_
            obtain ⟨v70, hj65, hj56⟩ := bind_some hj56
            refine SWp.seqC [2, 3, 69] [2, 3] (fun _ : Unit => ⟨[(2, .ref (.box 2) 0 []), (3, .ref (.box 3) 0 []), (69, .t (vb v70))], [(2, [vs c1.Name, vi c1.Params, .sl false 1 (List.map vi c1.Locals), .sl false 7 (List.map (GIns.enc false) c1.Words)]), (3, [vi x2.Op, vi x2.A, vi x2.B, vi x2.C, vi x2.Num, vs x2.Name, .sl false 1 (List.map vi x2.Args)])]⟩) (fun _ => True) (fun _ _ => ?_) fun K66 hK66 => ?_
            rotate_left
            · refine SWp.seqR rfl (hPB _ rfl) fun K hK => ?_
              iterate 2 (refine wps_cons rfl fun K hK => ?_; simp [hN']; refine hK _ ?_; clear hK)
              refine wps_nil (hK _ ?_); clear hK
              rcases ite_or hj65 with ⟨hb68, hj65⟩ | ⟨hb69, hj65⟩
              · refine SWp.condT' (b := x2.Op == 18) (by simp) hb68 ?_
                refine SWp.skip ?_
                cases hj65
                exact hK66 _ () [] trivial (by simp [hN'])
              · refine SWp.condF' (b := x2.Op == 18) (by simp) hb69 ?_
                refine SWp.reg rfl (hPB _ rfl) fun K hK => ?_
                iterate 2 (refine wps_cons rfl fun K hK => ?_; simp [hN']; refine hK _ ?_; clear hK)
                refine wps_nil (hK _ ?_); clear hK
                cases hj65
                exact hK66 _ () [] trivial (by simp [hN'])
            rcases ite_or hj56 with ⟨hb71, hj56⟩ | ⟨hb72, hj56⟩
            · refine SWp.condT' (b := v70) (by simp) hb71 ?_
              refine SWp.seqR rfl (hPB _ rfl) fun K hK => ?_
              iterate 6 (refine wps_cons rfl fun K hK => ?_; simp [hN']; refine hK _ ?_; clear hK)
              obtain ⟨r73, hc74, hj56⟩ := bind_some hj56
              refine wps_call [(.take, .tmp 73), (.take, .const (.int .i64 0)), (.take, .tmp 77)] rfl rfl ent82 (spec_l01In_ok _ _ _ hc74) fun K hK => ?_; simp [hN']; refine hK _ ?_; clear hK
              refine wps_cons rfl fun K hK => ?_; simp [hN']; refine hK _ ?_; clear hK
              refine wps_nil (hK _ ?_); clear hK
              rcases ite_or hj56 with ⟨hb75, hj56⟩ | ⟨hb76, hj56⟩
              · refine SWp.condT' (b := !r73) (by simp) hb75 ?_
                refine SWp.seqR rfl (hPB _ rfl) fun K hK => ?_
                refine wps_cons rfl fun K hK => ?_; simp [hN']; refine hK _ ?_; clear hK
                refine wps_nil (hK _ ?_); clear hK
                cases hj56
                try dsimp only at h
                cases h
                refine SWp.ret ?_
                simp [thenS, inBlockS, res83]
              · refine SWp.condF' (b := !r73) (by simp) hb76 ?_
                refine SWp.skip ?_
                cases hj56
                exact hK57 _ _ [] rfl (by simp [hN'])
            · refine SWp.condF' (b := v70) (by simp) hb72 ?_
              refine SWp.seqR rfl (hPB _ rfl) fun K hK => ?_
              iterate 3 (refine wps_cons rfl fun K hK => ?_; simp [hN']; refine hK _ ?_; clear hK)
              refine wps_nil (hK _ ?_); clear hK
              rcases ite_or hj56 with ⟨hb77, hj56⟩ | ⟨hb78, hj56⟩
              · refine SWp.condT' (b := x2.Num != 0) (by simp) hb77 ?_
                refine SWp.seqR rfl (hPB _ rfl) fun K hK => ?_
                refine wps_cons rfl fun K hK => ?_; simp [hN']; refine hK _ ?_; clear hK
                refine wps_nil (hK _ ?_); clear hK
                cases hj56
                try dsimp only at h
                cases h
                refine SWp.ret ?_
                simp [thenS, inBlockS, res83]
              · refine SWp.condF' (b := x2.Num != 0) (by simp) hb78 ?_
                refine SWp.skip ?_
                cases hj56
                exact hK57 _ _ [] rfl (by simp [hN'])
        subst hv
        obtain ⟨⟩ := v
        try dsimp only at h ⊢
        refine SWp.seq ?_
        refine SWp.seqR rfl (hPB _ rfl) fun K hK => ?_
        iterate 3 (refine wps_cons rfl fun K hK => ?_; simp [hN']; refine hK _ ?_; clear hK)
        refine wps_nil (hK _ ?_); clear hK
        rcases ite_or h with ⟨hb79, h⟩ | ⟨hb80, h⟩
        · refine SWp.condT' (b := x2.Op != 13) (by simp) hb79 ?_
          obtain ⟨v85, hj81, h⟩ := bind_some h
          refine SWp.seqRC rfl (hPB _ rfl) [4] [] (fun _ : Unit => ⟨[(4, .t (vb v85))], []⟩) (fun _ => True) (fun _ _ => ?_) fun K82 hK82 => ?_
          rotate_left
          · refine wps_cons rfl fun K hK => ?_; simp [hN']; refine hK _ ?_; clear hK
            iterate 3 (refine wps_cons rfl fun K hK => ?_; simp [hN']; refine hK _ ?_; clear hK)
            rcases ite_or hj81 with ⟨hb83, hj81⟩ | ⟨hb84, hj81⟩
            · have hb83s := hb83
              try simp at hb83s
              iterate 6 (refine wps_cons rfl fun K hK => ?_; simp [hN', hb83, hb83s]; refine hK _ ?_; clear hK)
              refine wps_nil ?_
              cases hj81
              exact hK82 _ () [] trivial (by simp [hN', hb83, hb83s])
            · have hb84s := hb84
              try simp at hb84s
              iterate 4 (refine wps_off fun K hK => ?_; simp [hN', hb84, hb84s]; refine hK _ ?_; clear hK)
              iterate 2 (refine wps_cons rfl fun K hK => ?_; simp [hN', hb84, hb84s]; refine hK _ ?_; clear hK)
              refine wps_nil ?_
              cases hj81
              exact hK82 _ () [] trivial (by simp [hN', hb84, hb84s])
          cases h
          refine SWp.ret ?_
          simp [thenS, inBlockS, res83]
        · refine SWp.condF' (b := x2.Op != 13) (by simp) hb80 ?_
          refine SWp.skip ?_
          show SWp E C _ _ _
          obtain ⟨j88, hj86, h⟩ := bind_some h
          refine SWp.seqC [3] [3] (fun v : Unit => ⟨[(3, .ref (.box 3) 0 [])], [(3, [vi x2.Op, vi x2.A, vi x2.B, vi x2.C, vi x2.Num, vs x2.Name, .sl false 1 (List.map vi x2.Args)])]⟩) (fun v => j88 = Sum.inl v) (fun v hv => ?_) fun K87 hK87 => ?_
          rotate_left
          · refine SWp.seqR rfl (hPB _ rfl) fun K hK => ?_
            refine wps_cons rfl fun K hK => ?_; simp [hN']; refine hK _ ?_; clear hK
            refine wps_nil (hK _ ?_); clear hK
            refine SWp.block ?_
            refine SWp.loopO [] [2, 3, 5] [2, 3] (fun v : Int => ⟨[(2, .ref (.box 2) 0 []), (3, .ref (.box 3) 0 []), (5, .t (vi v))], [(2, [vs c1.Name, vi c1.Params, .sl false 1 (List.map vi c1.Locals), .sl false 7 (List.map (GIns.enc false) c1.Words)]), (3, [vi x2.Op, vi x2.A, vi x2.B, vi x2.C, vi x2.Num, vs x2.Name, .sl false 1 (List.map vi x2.Args)])]⟩) (spec_WordOk_l1 c1 x2) _ 0 hj86 (by simp [hN']) ?_
            intro g s92 h90 ho91
            obtain ⟨i89, hg⟩ : ∃ y, y = g := ⟨_, rfl⟩
            subst hg
            simp only [spec_WordOk_l1] at h90
            try dsimp only
            refine SWp.seq ?_
            refine SWp.seqR rfl (hPB _ rfl) fun K hK => ?_
            iterate 5 (refine wps_cons rfl fun K hK => ?_; simp [hN']; refine hK _ ?_; clear hK)
            refine wps_nil (hK _ ?_); clear hK
            rcases ite_or h90 with ⟨hb93, h90⟩ | ⟨hb94, h90⟩
            · refine SWp.condT' (b := decide (i89 < (x2.Args.length : Int))) (by simp) hb93 ?_
              refine SWp.skip ?_
              show SWp E C _ _ _
              refine SWp.seq ?_
              refine SWp.block ?_
              refine SWp.seq ?_
              obtain ⟨e96, he96, h90⟩ := bind_some h90
              obtain ⟨he96a, he96b, he96c, he96d⟩ := getI_some he96
              refine SWp.drawT rfl (hPB _ rfl) [(99, .t (GCode.enc false c1)), (100, .ref (.box 3) 6 []), (101, .t (.sl false 1 (List.map vi x2.Args))), (102, .t (vi i89)), (103, .rop [vi e96] 0), (104, .t (vi e96))] [[], [], [1], [], [1, 2, 3], [1, 2, 3, 4], [0, 1, 2, 3, 4, 5], [0, 1, 2, 3, 4, 5, 6]] (by simp) (by simp) (by simp [look]) rfl rfl rfl ?_ fun K hK => ?_
              · refine ⟨?_, ?_, ?_, ?_, ?_, ?_, trivial⟩
                all_goals (intro τ hbx hb hd hf K hK; try simp [vsAt] at hd; simp [vsAt] at hf; first | (refine wps_cons rfl fun K' hK' => ?_; simp [hN', hbx, hb, hd, hf, he96a, he96b, he96c, he96d]; exact hK' _ (wps_nil (hK _ (by simp [vsAt, hbx, he96a, he96b, he96c, he96d])))))
              obtain ⟨r97, hc98, h90⟩ := bind_some h90
              refine wps_call [(.take, .tmp 99), (.take, .tmp 104)] rfl rfl ent110 (spec_l11Place_ok _ _ hc98) fun K hK => ?_; simp [hN', he96a, he96b, he96c, he96d]; refine hK _ ?_; clear hK
              refine wps_cons rfl fun K hK => ?_; simp [hN', he96a, he96b, he96c, he96d]; refine hK _ ?_; clear hK
              refine wps_nil (hK _ ?_); clear hK
              show SWp E C _ _ _
              rcases ite_or h90 with ⟨hb99, h90⟩ | ⟨hb100, h90⟩
              · refine SWp.condT' (b := !r97) (by simp) hb99 ?_
                refine SWp.seqR rfl (hPB _ rfl) fun K hK => ?_
                refine wps_cons rfl fun K hK => ?_; simp [hN']; refine hK _ ?_; clear hK
                refine wps_nil (hK _ ?_); clear hK
                have h101 := congrArg some (ho91 _ (Option.some.inj h90).symm)
                cases h101
                try dsimp only at h
                cases h
                refine SWp.ret ?_
                simp [thenS, inBlockS, res83]
              · refine SWp.condF' (b := !r97) (by simp) hb100 ?_
                refine SWp.skip ?_
                show SWp E C _ _ _
                refine SWp.reg rfl (hPB _ rfl) fun K hK => ?_
                iterate 3 (refine wps_cons rfl fun K hK => ?_; simp [hN']; refine hK _ ?_; clear hK)
                refine wps_nil (hK _ ?_); clear hK
                cases h90
                exact ⟨_, [], rfl, by simp [hN']⟩
            · refine SWp.condF' (b := decide (i89 < (x2.Args.length : Int))) (by simp) hb94 ?_
              refine SWp.exit ?_
              have h102 := congrArg some (ho91 _ (Option.some.inj h90).symm)
              cases h102
              exact hK87 _ _ [] rfl (by simp [hN'])
          subst hv
          obtain ⟨⟩ := v
          try dsimp only at h ⊢
          obtain ⟨v109, hj103, h⟩ := bind_some h
          refine SWp.seqRC rfl (hPB _ rfl) [4] [] (fun _ : Unit => ⟨[(4, .t (vb v109))], []⟩) (fun _ => True) (fun _ _ => ?_) fun K104 hK104 => ?_
          rotate_left
          · refine wps_cons rfl fun K hK => ?_; simp [hN']; refine hK _ ?_; clear hK
            refine wps_cons rfl fun K hK => ?_; simp [hN']; refine hK _ ?_; clear hK
            obtain ⟨r105, hc106, hj103⟩ := bind_some hj103
            refine wps_call [(.take, .tmp 108)] rfl rfl ent81 (spec_NameOk_ok _ hc106) fun K hK => ?_; simp [hN']; refine hK _ ?_; clear hK
            refine wps_cons rfl fun K hK => ?_; simp [hN']; refine hK _ ?_; clear hK
            rcases ite_or hj103 with ⟨hb107, hj103⟩ | ⟨hb108, hj103⟩
            · have hb107s := hb107
              try simp at hb107s
              iterate 6 (refine wps_cons rfl fun K hK => ?_; simp [hN', hb107, hb107s]; refine hK _ ?_; clear hK)
              refine wps_nil ?_
              cases hj103
              exact hK104 _ () [] trivial (by simp [hN', hb107, hb107s])
            · have hb108s := hb108
              try simp at hb108s
              iterate 4 (refine wps_off fun K hK => ?_; simp [hN', hb108, hb108s]; refine hK _ ?_; clear hK)
              iterate 2 (refine wps_cons rfl fun K hK => ?_; simp [hN', hb108, hb108s]; refine hK _ ?_; clear hK)
              refine wps_nil ?_
              cases hj103
              exact hK104 _ () [] trivial (by simp [hN', hb108, hb108s])
          cases h
          refine SWp.ret ?_
          simp [thenS, inBlockS, res83]
end Go.Proofs.T
set_option linter.unusedVariables false
set_option linter.unusedSimpArgs false
set_option maxHeartbeats 1000000
namespace Go.Proofs.T
open Go.OM
theorem res46 : Tryd.f46.results.toList = [.tmp 2] := rfl
theorem ent46 : Enters E.P 46 := enters_of Tryd.func46 (by simp [Tryd.f46]) rfl
theorem spec_CodeOk_ok (c1 : GCode) {r0 : Bool} (h : spec_CodeOk c1 = some r0) : Ok E 46 [.val (GCode.enc false c1)] [vb r0] [] := by
  refine ok_of_body (fn := Tryd.f46) Tryd.func46 rfl (by simp [Tryd.f46]) fun C hN hP => ?_
  have hPB : ∀ l, pinK [] l = true → pinB C.pin l = true := pinB_of (by rw [hP]; rfl)
  have hN' : C.N = 72 := hN
  clear hN
  unfold spec_CodeOk at h
  refine SWp.seqR rfl (hPB _ rfl) fun K hK => ?_
  iterate 2 (refine wps_cons rfl fun K hK => ?_; simp [hN']; refine hK _ ?_; clear hK)
  refine wps_nil (hK _ ?_); clear hK
  refine SWp.seq ?_
  obtain ⟨v19, hj2, h⟩ := bind_some h
  refine SWp.seqRC rfl (hPB _ rfl) [1, 42] [1] (fun _ : Unit => ⟨[(1, .ref (.box 1) 0 []), (42, .t (vb v19))], [(1, [vs c1.Name, vi c1.Params, .sl false 1 (List.map vi c1.Locals), .sl false 7 (List.map (GIns.enc false) c1.Words)])]⟩) (fun _ => True) (fun _ _ => ?_) fun K3 hK3 => ?_
  rotate_left
  · refine wps_cons rfl fun K hK => ?_; simp [hN']; refine hK _ ?_; clear hK
    refine wps_cons rfl fun K hK => ?_; simp [hN']; refine hK _ ?_; clear hK
    obtain ⟨r4, hc5, hj2⟩ := bind_some hj2
    refine wps_call [(.take, .tmp 6)] rfl rfl ent81 (spec_NameOk_ok _ hc5) fun K hK => ?_; simp [hN']; refine hK _ ?_; clear hK
    iterate 2 (refine wps_cons rfl fun K hK => ?_; simp [hN']; refine hK _ ?_; clear hK)
    rcases ite_or hj2 with ⟨hb6, hj2⟩ | ⟨hb7, hj2⟩
    · have hb6s := hb6
      try simp at hb6s
      iterate 4 (refine wps_off fun K hK => ?_; simp [hN', hb6, hb6s]; refine hK _ ?_; clear hK)
      iterate 2 (refine wps_cons rfl fun K hK => ?_; simp [hN', hb6, hb6s]; refine hK _ ?_; clear hK)
      iterate 7 (refine wps_off fun K hK => ?_; simp [hN', hb6, hb6s]; refine hK _ ?_; clear hK)
      iterate 2 (refine wps_cons rfl fun K hK => ?_; simp [hN', hb6, hb6s]; refine hK _ ?_; clear hK)
      iterate 5 (refine wps_off fun K hK => ?_; simp [hN', hb6, hb6s]; refine hK _ ?_; clear hK)
      iterate 2 (refine wps_cons rfl fun K hK => ?_; simp [hN', hb6, hb6s]; refine hK _ ?_; clear hK)
      iterate 10 (refine wps_off fun K hK => ?_; simp [hN', hb6, hb6s]; refine hK _ ?_; clear hK)
      refine wps_cons rfl fun K hK => ?_; simp [hN', hb6, hb6s]; refine hK _ ?_; clear hK
      refine wps_nil ?_
      cases hj2
      exact hK3 _ () [] trivial (by simp [hN', hb6, hb6s])
    · have hb7s := hb7
      try simp at hb7s
      iterate 6 (refine wps_cons rfl fun K hK => ?_; simp [hN', hb7, hb7s]; refine hK _ ?_; clear hK)
      rcases ite_or hj2 with ⟨hb8, hj2⟩ | ⟨hb9, hj2⟩
      · have hb8s := hb8
        try simp at hb8s
        iterate 7 (refine wps_off fun K hK => ?_; simp [hN', hb7, hb7s, hb8, hb8s]; refine hK _ ?_; clear hK)
        iterate 2 (refine wps_cons rfl fun K hK => ?_; simp [hN', hb7, hb7s, hb8, hb8s]; refine hK _ ?_; clear hK)
        iterate 5 (refine wps_off fun K hK => ?_; simp [hN', hb7, hb7s, hb8, hb8s]; refine hK _ ?_; clear hK)
        iterate 2 (refine wps_cons rfl fun K hK => ?_; simp [hN', hb7, hb7s, hb8, hb8s]; refine hK _ ?_; clear hK)
        iterate 10 (refine wps_off fun K hK => ?_; simp [hN', hb7, hb7s, hb8, hb8s]; refine hK _ ?_; clear hK)
        refine wps_cons rfl fun K hK => ?_; simp [hN', hb7, hb7s, hb8, hb8s]; refine hK _ ?_; clear hK
        refine wps_nil ?_
        cases hj2
        exact hK3 _ () [] trivial (by simp [hN', hb7, hb7s, hb8, hb8s])
      · have hb9s := hb9
        try simp at hb9s
        iterate 5 (refine wps_cons rfl fun K hK => ?_; simp [hN', hb7, hb7s, hb9, hb9s]; refine hK _ ?_; clear hK)
        obtain ⟨r10, hc11, hj2⟩ := bind_some hj2
        refine wps_call [(.take, .tmp 17), (.take, .const (.int .i64 0)), (.take, .tmp 20)] rfl rfl ent82 (spec_l01In_ok _ _ _ hc11) fun K hK => ?_; simp [hN', hb7, hb7s, hb9, hb9s]; refine hK _ ?_; clear hK
        iterate 3 (refine wps_cons rfl fun K hK => ?_; simp [hN', hb7, hb7s, hb9, hb9s]; refine hK _ ?_; clear hK)
        rcases ite_or hj2 with ⟨hb12, hj2⟩ | ⟨hb13, hj2⟩
        · have hb12s := hb12
          try simp at hb12s
          iterate 5 (refine wps_off fun K hK => ?_; simp [hN', hb7, hb7s, hb9, hb9s, hb12, hb12s]; refine hK _ ?_; clear hK)
          iterate 2 (refine wps_cons rfl fun K hK => ?_; simp [hN', hb7, hb7s, hb9, hb9s, hb12, hb12s]; refine hK _ ?_; clear hK)
          iterate 10 (refine wps_off fun K hK => ?_; simp [hN', hb7, hb7s, hb9, hb9s, hb12, hb12s]; refine hK _ ?_; clear hK)
          refine wps_cons rfl fun K hK => ?_; simp [hN', hb7, hb7s, hb9, hb9s, hb12, hb12s]; refine hK _ ?_; clear hK
          refine wps_nil ?_
          cases hj2
          exact hK3 _ () [] trivial (by simp [hN', hb7, hb7s, hb9, hb9s, hb12, hb12s])
        · have hb13s := hb13
          try simp at hb13s
          iterate 3 (refine wps_cons rfl fun K hK => ?_; simp [hN', hb7, hb7s, hb9, hb9s, hb13, hb13s]; refine hK _ ?_; clear hK)
          obtain ⟨r14, hc15, hj2⟩ := bind_some hj2
          refine wps_call [(.take, .tmp 27), (.take, .const (.int .i64 1)), (.take, .const (.int .i64 400))] rfl rfl ent82 (spec_l01In_ok _ _ _ hc15) fun K hK => ?_; simp [hN', hb7, hb7s, hb9, hb9s, hb13, hb13s]; refine hK _ ?_; clear hK
          iterate 3 (refine wps_cons rfl fun K hK => ?_; simp [hN', hb7, hb7s, hb9, hb9s, hb13, hb13s]; refine hK _ ?_; clear hK)
          rcases ite_or hj2 with ⟨hb16, hj2⟩ | ⟨hb17, hj2⟩
          · have hb16s := hb16
            try simp at hb16s
            iterate 10 (refine wps_off fun K hK => ?_; simp [hN', hb7, hb7s, hb9, hb9s, hb13, hb13s, hb16, hb16s]; refine hK _ ?_; clear hK)
            refine wps_cons rfl fun K hK => ?_; simp [hN', hb7, hb7s, hb9, hb9s, hb13, hb13s, hb16, hb16s]; refine hK _ ?_; clear hK
            refine wps_nil ?_
            cases hj2
            exact hK3 _ () [] trivial (by simp [hN', hb7, hb7s, hb9, hb9s, hb13, hb13s, hb16, hb16s])
          · have hb17s := hb17
            try simp at hb17s
            iterate 6 (refine wps_cons rfl fun K hK => ?_; simp [hN', hb7, hb7s, hb9, hb9s, hb13, hb13s, hb17, hb17s]; refine hK _ ?_; clear hK)
            obtain ⟨e18, he18, hj2⟩ := bind_some hj2
            obtain ⟨he18a, he18b, he18c, he18d⟩ := getI_some he18
            have he18j := he18b; try simp at he18j
            try simp only [Int.toNat_natCast] at he18c he18d
            iterate 5 (refine wps_cons rfl fun K hK => ?_; simp [hN', hb7, hb7s, hb9, hb9s, hb13, hb13s, hb17, hb17s, he18a, he18b, he18c, he18d, he18j]; refine hK _ ?_; clear hK)
            refine wps_nil ?_
            cases hj2
            exact hK3 _ () [] trivial (by simp [hN', hb7, hb7s, hb9, hb9s, hb13, hb13s, hb17, hb17s, he18a, he18b, he18c, he18d, he18j])
  rcases ite_or h with ⟨hb20, h⟩ | ⟨hb21, h⟩
  · refine SWp.condT' (b := v19) (by simp) hb20 ?_
    refine SWp.seqR rfl (hPB _ rfl) fun K hK => ?_
    refine wps_cons rfl fun K hK => ?_; simp [hN']; refine hK _ ?_; clear hK
    refine wps_nil (hK _ ?_); clear hK
    cases h
    refine SWp.ret ?_
    simp [thenS, inBlockS, res46]
  · refine SWp.condF' (b := v19) (by simp) hb21 ?_
    refine SWp.skip ?_
    show SWp E C _ _ _
    obtain ⟨j24, hj22, h⟩ := bind_some h
    refine SWp.seqC [1] [1] (fun v : Unit => ⟨[(1, .ref (.box 1) 0 [])], [(1, [vs c1.Name, vi c1.Params, .sl false 1 (List.map vi c1.Locals), .sl false 7 (List.map (GIns.enc false) c1.Words)])]⟩) (fun v => j24 = Sum.inl v) (fun v hv => ?_) fun K23 hK23 => ?_
    rotate_left
    · refine SWp.seqR rfl (hPB _ rfl) fun K hK => ?_
      refine wps_cons rfl fun K hK => ?_; simp [hN']; refine hK _ ?_; clear hK
      refine wps_nil (hK _ ?_); clear hK
      refine SWp.block ?_
      refine SWp.loopO [] [1, 3] [1] (fun v : Int => ⟨[(1, .ref (.box 1) 0 []), (3, .t (vi v))], [(1, [vs c1.Name, vi c1.Params, .sl false 1 (List.map vi c1.Locals), .sl false 7 (List.map (GIns.enc false) c1.Words)])]⟩) (spec_CodeOk_l1 c1) _ 0 hj22 (by simp [hN']) ?_
      intro g s28 h26 ho27
      obtain ⟨i25, hg⟩ : ∃ y, y = g := ⟨_, rfl⟩
      subst hg
      simp only [spec_CodeOk_l1] at h26
      try dsimp only
      refine SWp.seq ?_
      refine SWp.seqR rfl (hPB _ rfl) fun K hK => ?_
      iterate 5 (refine wps_cons rfl fun K hK => ?_; simp [hN']; refine hK _ ?_; clear hK)
      refine wps_nil (hK _ ?_); clear hK
      rcases ite_or h26 with ⟨hb29, h26⟩ | ⟨hb30, h26⟩
      · refine SWp.condT' (b := decide (i25 < (c1.Locals.length : Int))) (by simp) hb29 ?_
        refine SWp.skip ?_
        show SWp E C _ _ _
        refine SWp.seq ?_
        refine SWp.block ?_
        refine SWp.seqR rfl (hPB _ rfl) fun K hK => ?_
        iterate 3 (refine wps_cons rfl fun K hK => ?_; simp [hN']; refine hK _ ?_; clear hK)
        obtain ⟨e31, he31, h26⟩ := bind_some h26
        obtain ⟨he31a, he31b, he31c, he31d⟩ := getI_some he31
        iterate 2 (refine wps_cons rfl fun K hK => ?_; simp [hN', he31a, he31b, he31c, he31d]; refine hK _ ?_; clear hK)
        obtain ⟨r32, hc33, h26⟩ := bind_some h26
        refine wps_call [(.take, .tmp 54), (.take, .const (.int .i64 1)), (.take, .const (.int .i64 4))] rfl rfl ent82 (spec_l01In_ok _ _ _ hc33) fun K hK => ?_; simp [hN', he31a, he31b, he31c, he31d]; refine hK _ ?_; clear hK
        refine wps_cons rfl fun K hK => ?_; simp [hN', he31a, he31b, he31c, he31d]; refine hK _ ?_; clear hK
        refine wps_nil (hK _ ?_); clear hK
        rcases ite_or h26 with ⟨hb34, h26⟩ | ⟨hb35, h26⟩
        · refine SWp.condT' (b := !r32) (by simp) hb34 ?_
          refine SWp.seqR rfl (hPB _ rfl) fun K hK => ?_
          refine wps_cons rfl fun K hK => ?_; simp [hN']; refine hK _ ?_; clear hK
          refine wps_nil (hK _ ?_); clear hK
          have h36 := congrArg some (ho27 _ (Option.some.inj h26).symm)
          cases h36
          try dsimp only at h
          cases h
          refine SWp.ret ?_
          simp [thenS, inBlockS, res46]
        · refine SWp.condF' (b := !r32) (by simp) hb35 ?_
          refine SWp.skip ?_
          show SWp E C _ _ _
          refine SWp.reg rfl (hPB _ rfl) fun K hK => ?_
          iterate 3 (refine wps_cons rfl fun K hK => ?_; simp [hN']; refine hK _ ?_; clear hK)
          refine wps_nil (hK _ ?_); clear hK
          cases h26
          exact ⟨_, [], rfl, by simp [hN']⟩
      · refine SWp.condF' (b := decide (i25 < (c1.Locals.length : Int))) (by simp) hb30 ?_
        refine SWp.exit ?_
        have h37 := congrArg some (ho27 _ (Option.some.inj h26).symm)
        cases h37
        exact hK23 _ _ [] rfl (by simp [hN'])
    subst hv
    obtain ⟨⟩ := v
    try dsimp only at h ⊢
    obtain ⟨j40, hj38, h⟩ := bind_some h
    refine SWp.seqC [] [] (fun v : Unit => ⟨[], []⟩) (fun v => j40 = Sum.inl v) (fun v hv => ?_) fun K39 hK39 => ?_
    rotate_left
    · refine SWp.seqR rfl (hPB _ rfl) fun K hK => ?_
      refine wps_cons rfl fun K hK => ?_; simp [hN']; refine hK _ ?_; clear hK
      refine wps_nil (hK _ ?_); clear hK
      refine SWp.block ?_
      refine SWp.loopO [] [1, 4] [1] (fun v : Int => ⟨[(1, .ref (.box 1) 0 []), (4, .t (vi v))], [(1, [vs c1.Name, vi c1.Params, .sl false 1 (List.map vi c1.Locals), .sl false 7 (List.map (GIns.enc false) c1.Words)])]⟩) (spec_CodeOk_l2 c1) _ 0 hj38 (by simp [hN']) ?_
      intro g s44 h42 ho43
      obtain ⟨i41, hg⟩ : ∃ y, y = g := ⟨_, rfl⟩
      subst hg
      simp only [spec_CodeOk_l2] at h42
      try dsimp only
      refine SWp.seq ?_
      refine SWp.seqR rfl (hPB _ rfl) fun K hK => ?_
      iterate 5 (refine wps_cons rfl fun K hK => ?_; simp [hN']; refine hK _ ?_; clear hK)
      refine wps_nil (hK _ ?_); clear hK
      rcases ite_or h42 with ⟨hb45, h42⟩ | ⟨hb46, h42⟩
      · refine SWp.condT' (b := decide (i41 < (c1.Words.length : Int))) (by simp) hb45 ?_
        refine SWp.skip ?_
        show SWp E C _ _ _
        refine SWp.seq ?_
        refine SWp.block ?_
        refine SWp.seq ?_
        obtain ⟨e48, he48, h42⟩ := bind_some h42
        obtain ⟨he48a, he48b, he48c, he48d⟩ := getI_some he48
        refine SWp.drawT rfl (hPB _ rfl) [(64, .t (GCode.enc false c1)), (65, .ref (.box 1) 3 []), (66, .t (.sl false 7 (List.map (GIns.enc false) c1.Words))), (67, .t (vi i41)), (68, .rop [vi e48.Op, vi e48.A, vi e48.B, vi e48.C, vi e48.Num, vs e48.Name, .sl false 1 (List.map vi e48.Args)] 0), (69, .t (GIns.enc false e48))] [[], [], [1], [], [1, 2, 3], [1, 2, 3, 4], [0, 1, 2, 3, 4, 5], [0, 1, 2, 3, 4, 5, 6]] (by simp) (by simp) (by simp [look]) rfl rfl rfl ?_ fun K hK => ?_
        · refine ⟨?_, ?_, ?_, ?_, ?_, ?_, trivial⟩
          all_goals (intro τ hbx hb hd hf K hK; try simp [vsAt] at hd; simp [vsAt] at hf; first | (refine wps_cons rfl fun K' hK' => ?_; simp [hN', hbx, hb, hd, hf, he48a, he48b, he48c, he48d]; exact hK' _ (wps_nil (hK _ (by simp [vsAt, hbx, he48a, he48b, he48c, he48d])))))
        obtain ⟨r49, hc50, h42⟩ := bind_some h42
        refine wps_call [(.take, .tmp 64), (.take, .tmp 69)] rfl rfl ent83 (spec_WordOk_ok _ _ hc50) fun K hK => ?_; simp [hN', he48a, he48b, he48c, he48d]; refine hK _ ?_; clear hK
        refine wps_cons rfl fun K hK => ?_; simp [hN', he48a, he48b, he48c, he48d]; refine hK _ ?_; clear hK
        refine wps_nil (hK _ ?_); clear hK
        show SWp E C _ _ _
        rcases ite_or h42 with ⟨hb51, h42⟩ | ⟨hb52, h42⟩
        · refine SWp.condT' (b := !r49) (by simp) hb51 ?_
          refine SWp.seqR rfl (hPB _ rfl) fun K hK => ?_
          refine wps_cons rfl fun K hK => ?_; simp [hN']; refine hK _ ?_; clear hK
          refine wps_nil (hK _ ?_); clear hK
          have h53 := congrArg some (ho43 _ (Option.some.inj h42).symm)
          cases h53
          try dsimp only at h
          cases h
          refine SWp.ret ?_
          simp [thenS, inBlockS, res46]
        · refine SWp.condF' (b := !r49) (by simp) hb52 ?_
          refine SWp.skip ?_
          show SWp E C _ _ _
          refine SWp.reg rfl (hPB _ rfl) fun K hK => ?_
          iterate 3 (refine wps_cons rfl fun K hK => ?_; simp [hN']; refine hK _ ?_; clear hK)
          refine wps_nil (hK _ ?_); clear hK
          cases h42
          exact ⟨_, [], rfl, by simp [hN']⟩
      · refine SWp.condF' (b := decide (i41 < (c1.Words.length : Int))) (by simp) hb46 ?_
        refine SWp.exit ?_
        have h54 := congrArg some (ho43 _ (Option.some.inj h42).symm)
        cases h54
        exact hK39 _ _ [] rfl (by simp [hN'])
    subst hv
    obtain ⟨⟩ := v
    try dsimp only at h ⊢
    refine SWp.seqR rfl (hPB _ rfl) fun K hK => ?_
    refine wps_cons rfl fun K hK => ?_; simp [hN']; refine hK _ ?_; clear hK
    refine wps_nil (hK _ ?_); clear hK
    cases h
    refine SWp.ret ?_
    simp [thenS, inBlockS, res46]
end Go.Proofs.T
set_option linter.unusedVariables false
set_option linter.unusedSimpArgs false
set_option maxHeartbeats 1000000
namespace Go.Proofs.T
open Go.OM
theorem res84 : Tryd.f84.results.toList = [.tmp 4] := rfl
theorem ent84 : Enters E.P 84 := enters_of Tryd.func84 (by simp [Tryd.f84]) rfl
theorem spec_l11Add_ok (list1 : List Int) (n2 : Int) {r0 : List Int} (h : spec_l11Add list1 n2 = some r0) : Ok E 84 [.val (.sl true 1 (List.map vi list1)), .val (vi n2)] [.sl true 1 (List.map vi r0)] [] := by
  refine ok_of_body (fn := Tryd.f84) Tryd.func84 rfl (by simp [Tryd.f84]) fun C hN hP => ?_
  have hPB : ∀ l, pinK [] l = true → pinB C.pin l = true := pinB_of (by rw [hP]; rfl)
  have hN' : C.N = 23 := hN
  clear hN
  unfold spec_l11Add at h
  refine SWp.seqR rfl (hPB _ rfl) fun K hK => ?_
  refine wps_cons rfl fun K hK => ?_; simp [hN']; refine hK _ ?_; clear hK
  refine wps_nil (hK _ ?_); clear hK
  obtain ⟨j5, hj3, h⟩ := bind_some h
  refine SWp.seqC [0, 1] [] (fun v : Unit => ⟨[(0, .t (.sl true 1 (List.map vi list1))), (1, .t (vi n2))], []⟩) (fun v => j5 = Sum.inl v) (fun v hv => ?_) fun K4 hK4 => ?_
  rotate_left
  · refine SWp.seqR rfl (hPB _ rfl) fun K hK => ?_
    refine wps_cons rfl fun K hK => ?_; simp [hN']; refine hK _ ?_; clear hK
    refine wps_nil (hK _ ?_); clear hK
    refine SWp.block ?_
    refine SWp.loopO [] [0, 1, 5] [] (fun v : Int => ⟨[(0, .t (.sl true 1 (List.map vi list1))), (1, .t (vi n2)), (5, .t (vi v))], []⟩) (spec_l11Add_l1 list1 n2) _ 0 hj3 (by simp [hN']) ?_
    intro g s9 h7 ho8
    obtain ⟨i6, hg⟩ : ∃ y, y = g := ⟨_, rfl⟩
    subst hg
    simp only [spec_l11Add_l1] at h7
    try dsimp only
    refine SWp.seq ?_
    refine SWp.seqR rfl (hPB _ rfl) fun K hK => ?_
    iterate 4 (refine wps_cons rfl fun K hK => ?_; simp [hN']; refine hK _ ?_; clear hK)
    refine wps_nil (hK _ ?_); clear hK
    rcases ite_or h7 with ⟨hb10, h7⟩ | ⟨hb11, h7⟩
    · refine SWp.condT' (b := decide (i6 < (list1.length : Int))) (by simp) hb10 ?_
      refine SWp.skip ?_
      show SWp E C _ _ _
      refine SWp.seq ?_
      refine SWp.block ?_
      refine SWp.seqR rfl (hPB _ rfl) fun K hK => ?_
      iterate 2 (refine wps_cons rfl fun K hK => ?_; simp [hN']; refine hK _ ?_; clear hK)
      obtain ⟨e12, he12, h7⟩ := bind_some h7
      obtain ⟨he12a, he12b, he12c, he12d⟩ := getI_some he12
      iterate 4 (refine wps_cons rfl fun K hK => ?_; simp [hN', he12a, he12b, he12c, he12d]; refine hK _ ?_; clear hK)
      refine wps_nil (hK _ ?_); clear hK
      rcases ite_or h7 with ⟨hb13, h7⟩ | ⟨hb14, h7⟩
      · refine SWp.condT' (b := e12 == n2) (by simp) hb13 ?_
        refine SWp.seqR rfl (hPB _ rfl) fun K hK => ?_
        iterate 2 (refine wps_cons rfl fun K hK => ?_; simp [hN']; refine hK _ ?_; clear hK)
        refine wps_nil (hK _ ?_); clear hK
        have h15 := congrArg some (ho8 _ (Option.some.inj h7).symm)
        cases h15
        try dsimp only at h
        cases h
        refine SWp.ret ?_
        simp [thenS, inBlockS, res84]
      · refine SWp.condF' (b := e12 == n2) (by simp) hb14 ?_
        refine SWp.skip ?_
        show SWp E C _ _ _
        refine SWp.reg rfl (hPB _ rfl) fun K hK => ?_
        iterate 3 (refine wps_cons rfl fun K hK => ?_; simp [hN']; refine hK _ ?_; clear hK)
        refine wps_nil (hK _ ?_); clear hK
        cases h7
        exact ⟨_, [], rfl, by simp [hN']⟩
    · refine SWp.condF' (b := decide (i6 < (list1.length : Int))) (by simp) hb11 ?_
      refine SWp.exit ?_
      have h16 := congrArg some (ho8 _ (Option.some.inj h7).symm)
      cases h16
      exact hK4 _ _ [] rfl (by simp [hN'])
  subst hv
  obtain ⟨⟩ := v
  try dsimp only at h ⊢
  refine SWp.seqR rfl (hPB _ rfl) fun K hK => ?_
  iterate 3 (refine wps_cons rfl fun K hK => ?_; simp [hN']; refine hK _ ?_; clear hK)
  obtain ⟨l17, hl17, h⟩ := bind_some h
  obtain ⟨hl17a, hl17b, hl17d⟩ := appI_some hl17
  have hl17f : List.map vi list1 ++ List.map vi [n2] = List.map vi l17 := app_map (f := vi) hl17d
  simp [eSl] at hl17a hl17b hl17f
  iterate 2 (refine wps_cons rfl fun K hK => ?_; simp [hN', hl17a, hl17b, hl17f]; refine hK _ ?_; clear hK)
  refine wps_nil (hK _ ?_); clear hK
  cases h
  refine SWp.ret ?_
  simp [thenS, inBlockS, res84]
end Go.Proofs.T
set_option linter.unusedVariables false
set_option linter.unusedSimpArgs false
set_option maxHeartbeats 1000000
namespace Go.Proofs.T
open Go.OM
theorem res47 : Tryd.f47.results.toList = [.tmp 4] := rfl
theorem ent47 : Enters E.P 47 := enters_of Tryd.func47 (by simp [Tryd.f47]) rfl
theorem spec_Next_ok (c1 : GCode) (i2 : Int) {r0 : List Int} (h : spec_Next c1 i2 = some r0) : Ok E 47 [.val (GCode.enc false c1), .val (vi i2)] [.sl true 1 (List.map vi r0)] [] := by
  refine ok_of_body (fn := Tryd.f47) Tryd.func47 rfl (by simp [Tryd.f47]) fun C hN hP => ?_
  have hPB : ∀ l, pinK [] l = true → pinB C.pin l = true := pinB_of (by rw [hP]; rfl)
  have hN' : C.N = 65 := hN
  clear hN
  unfold spec_Next at h
  refine SWp.seqR rfl (hPB _ rfl) fun K hK => ?_
  iterate 2 (refine wps_cons rfl fun K hK => ?_; simp [hN']; refine hK _ ?_; clear hK)
  refine wps_nil (hK _ ?_); clear hK
  refine SWp.seqR rfl (hPB _ rfl) fun K hK => ?_
  iterate 2 (refine wps_cons rfl fun K hK => ?_; simp [hN']; refine hK _ ?_; clear hK)
  refine wps_nil (hK _ ?_); clear hK
  refine SWp.seq ?_
  refine SWp.seqR rfl (hPB _ rfl) fun K hK => ?_
  iterate 5 (refine wps_cons rfl fun K hK => ?_; simp [hN']; refine hK _ ?_; clear hK)
  obtain ⟨r3, hc4, h⟩ := bind_some h
  refine wps_call [(.take, .tmp 10), (.take, .const (.int .i64 0)), (.take, .tmp 14)] rfl rfl ent82 (spec_l01In_ok _ _ _ hc4) fun K hK => ?_; simp [hN']; refine hK _ ?_; clear hK
  refine wps_cons rfl fun K hK => ?_; simp [hN']; refine hK _ ?_; clear hK
  refine wps_nil (hK _ ?_); clear hK
  rcases ite_or h with ⟨hb5, h⟩ | ⟨hb6, h⟩
  · refine SWp.condT' (b := !r3) (by simp) hb5 ?_
    refine SWp.seqR rfl (hPB _ rfl) fun K hK => ?_
    iterate 2 (refine wps_cons rfl fun K hK => ?_; simp [hN']; refine hK _ ?_; clear hK)
    refine wps_nil (hK _ ?_); clear hK
    cases h
    refine SWp.ret ?_
    simp [thenS, inBlockS, res47]
  · refine SWp.condF' (b := !r3) (by simp) hb6 ?_
    refine SWp.skip ?_
    show SWp E C _ _ _
    refine SWp.seqR rfl (hPB _ rfl) fun K hK => ?_
    iterate 3 (refine wps_cons rfl fun K hK => ?_; simp [hN']; refine hK _ ?_; clear hK)
    obtain ⟨e7, he7, h⟩ := bind_some h
    obtain ⟨he7a, he7b, he7c, he7d⟩ := getI_some he7
    iterate 4 (refine wps_cons rfl fun K hK => ?_; simp [hN', he7a, he7b, he7c, he7d]; refine hK _ ?_; clear hK)
    refine wps_nil (hK _ ?_); clear hK
    refine SWp.seqR rfl (hPB _ rfl) fun K hK => ?_
    iterate 4 (refine wps_cons rfl fun K hK => ?_; simp [hN']; refine hK _ ?_; clear hK)
    refine wps_nil (hK _ ?_); clear hK
    obtain ⟨list17, hj8, h⟩ := bind_some h
    refine SWp.seqC [2, 5, 7] [2] (fun _ : Unit => ⟨[(2, .ref (.box 2) 0 []), (5, .t (.sl true 1 [])), (7, .t (.sl true 1 (List.map vi list17)))], [(2, [vs c1.Name, vi c1.Params, .sl false 1 (List.map vi c1.Locals), .sl false 7 (List.map (GIns.enc false) c1.Words)])]⟩) (fun _ => True) (fun _ _ => ?_) fun K9 hK9 => ?_
    rotate_left
    · refine SWp.seqR rfl (hPB _ rfl) fun K hK => ?_
      iterate 2 (refine wps_cons rfl fun K hK => ?_; simp [hN']; refine hK _ ?_; clear hK)
      refine wps_nil (hK _ ?_); clear hK
      refine SWp.block ?_
      refine SWp.seqR rfl (hPB _ rfl) fun K hK => ?_
      iterate 2 (refine wps_cons rfl fun K hK => ?_; simp [hN']; refine hK _ ?_; clear hK)
      refine wps_nil (hK _ ?_); clear hK
      rcases ite_or hj8 with ⟨hb11, hj8⟩ | ⟨hb12, hj8⟩
      · refine SWp.condT' (b := e7.Op == 20) (by simp) hb11 ?_
        refine SWp.reg rfl (hPB _ rfl) fun K hK => ?_
        iterate 2 (refine wps_cons rfl fun K hK => ?_; simp [hN']; refine hK _ ?_; clear hK)
        refine wps_nil (hK _ ?_); clear hK
        cases hj8
        exact hK9 _ () [] trivial (by simp [hN'])
      · refine SWp.condF' (b := e7.Op == 20) (by simp) hb12 ?_
        refine SWp.seqR rfl (hPB _ rfl) fun K hK => ?_
        iterate 2 (refine wps_cons rfl fun K hK => ?_; simp [hN']; refine hK _ ?_; clear hK)
        refine wps_nil (hK _ ?_); clear hK
        rcases ite_or hj8 with ⟨hb13, hj8⟩ | ⟨hb14, hj8⟩
        · refine SWp.condT' (b := e7.Op == 18) (by simp) hb13 ?_
          refine SWp.reg rfl (hPB _ rfl) fun K hK => ?_
          iterate 4 (refine wps_cons rfl fun K hK => ?_; simp [hN']; refine hK _ ?_; clear hK)
          refine wps_nil (hK _ ?_); clear hK
          cases hj8
          exact hK9 _ () [] trivial (by simp [hN'])
        · refine SWp.condF' (b := e7.Op == 18) (by simp) hb14 ?_
          refine SWp.seqR rfl (hPB _ rfl) fun K hK => ?_
          iterate 2 (refine wps_cons rfl fun K hK => ?_; simp [hN']; refine hK _ ?_; clear hK)
          refine wps_nil (hK _ ?_); clear hK
          rcases ite_or hj8 with ⟨hb15, hj8⟩ | ⟨hb16, hj8⟩
          · refine SWp.condT' (b := e7.Op == 19) (by simp) hb15 ?_
            refine SWp.reg rfl (hPB _ rfl) fun K hK => ?_
            iterate 6 (refine wps_cons rfl fun K hK => ?_; simp [hN']; refine hK _ ?_; clear hK)
            refine wps_nil (hK _ ?_); clear hK
            cases hj8
            exact hK9 _ () [] trivial (by simp [hN'])
          · refine SWp.condF' (b := e7.Op == 19) (by simp) hb16 ?_
            refine SWp.skip ?_
            cases hj8
            exact hK9 _ () [] trivial (by simp [hN'])
    obtain ⟨out38, hj18, h⟩ := bind_some h
    refine SWp.seqC [5] [] (fun _ : Unit => ⟨[(5, .t (.sl true 1 (List.map vi out38)))], []⟩) (fun _ => True) (fun _ _ => ?_) fun K19 hK19 => ?_
    rotate_left
    · refine SWp.seqR rfl (hPB _ rfl) fun K hK => ?_
      refine wps_cons rfl fun K hK => ?_; simp [hN']; refine hK _ ?_; clear hK
      refine wps_nil (hK _ ?_); clear hK
      refine SWp.block ?_
      refine SWp.loopO [] [2, 5, 7, 8] [2] (fun v : (List Int) × Int => ⟨[(2, .ref (.box 2) 0 []), (5, .t (.sl true 1 (List.map vi v.1))), (7, .t (.sl true 1 (List.map vi list17))), (8, .t (vi v.2))], [(2, [vs c1.Name, vi c1.Params, .sl false 1 (List.map vi c1.Locals), .sl false 7 (List.map (GIns.enc false) c1.Words)])]⟩) (spec_Next_l1 c1 list17) _ ([], 0) hj18 (by simp [hN']) ?_
      intro g s25 h23 ho24
      obtain ⟨out21, k22⟩ := g
      simp only [spec_Next_l1] at h23
      try dsimp only
      refine SWp.seq ?_
      refine SWp.seqR rfl (hPB _ rfl) fun K hK => ?_
      iterate 4 (refine wps_cons rfl fun K hK => ?_; simp [hN']; refine hK _ ?_; clear hK)
      refine wps_nil (hK _ ?_); clear hK
      rcases ite_or h23 with ⟨hb26, h23⟩ | ⟨hb27, h23⟩
      · refine SWp.condT' (b := decide (k22 < (list17.length : Int))) (by simp) hb26 ?_
        refine SWp.skip ?_
        show SWp E C _ _ _
        refine SWp.seq ?_
        refine SWp.block ?_
        refine SWp.seq ?_
        obtain ⟨e29, he29, h23⟩ := bind_some h23
        obtain ⟨he29a, he29b, he29c, he29d⟩ := getI_some he29
        refine SWp.drawT rfl (hPB _ rfl) [(49, .al (.slot 7) 0 [] none), (50, .t (vi k22)), (51, .ref (.slot 7) 0 [(k22.toNat, 0)]), (52, .t (vi e29)), (53, .ref (.box 2) 3 []), (54, .t (.sl false 7 (List.map (GIns.enc false) c1.Words))), (55, .t (vi (c1.Words.length : Int))), (56, .t (vi (IntKind.wrap .i64 ((c1.Words.length : Int) - 1))))] [[], [], [0, 1], [0, 1, 2], [], [4], [4, 5], [4, 5, 6], [0, 1, 2, 3, 4, 5, 6, 7]] (by simp) (by simp) (by simp [look]) rfl rfl rfl ?_ fun K hK => ?_
        · refine ⟨?_, ?_, ?_, ?_, ?_, ?_, ?_, ?_, trivial⟩
          all_goals (intro τ hbx hb hd hf K hK; try simp [vsAt] at hd; simp [vsAt] at hf; first | (refine wps_cons rfl fun K' hK' => ?_; simp [hN', hbx, hb, hd, hf, he29a, he29b, he29c, he29d]; exact hK' _ (wps_nil (hK _ (by simp [vsAt, hbx, he29a, he29b, he29c, he29d])))))
        obtain ⟨r30, hc31, h23⟩ := bind_some h23
        refine wps_call [(.take, .tmp 52), (.take, .const (.int .i64 0)), (.take, .tmp 56)] rfl rfl ent82 (spec_l01In_ok _ _ _ hc31) fun K hK => ?_; simp [hN', he29a, he29b, he29c, he29d]; refine hK _ ?_; clear hK
        refine wps_nil (hK _ ?_); clear hK
        show SWp E C _ _ _
        rcases ite_or h23 with ⟨hb32, h23⟩ | ⟨hb33, h23⟩
        · refine SWp.condT' (b := r30) (by simp) hb32 ?_
          refine SWp.reg rfl (hPB _ rfl) fun K hK => ?_
          iterate 3 (refine wps_cons rfl fun K hK => ?_; simp [hN']; refine hK _ ?_; clear hK)
          obtain ⟨e34, he34, h23⟩ := bind_some h23
          obtain ⟨he34a, he34b, he34c, he34d⟩ := getI_some he34
          iterate 2 (refine wps_cons rfl fun K hK => ?_; simp [hN', he34a, he34b, he34c, he34d]; refine hK _ ?_; clear hK)
          obtain ⟨r35, hc36, h23⟩ := bind_some h23
          refine wps_call [(.take, .tmp 58), (.take, .tmp 62)] rfl rfl ent84 (spec_l11Add_ok _ _ hc36) fun K hK => ?_; simp [hN', he34a, he34b, he34c, he34d]; refine hK _ ?_; clear hK
          refine wps_cons rfl fun K hK => ?_; simp [hN', he34a, he34b, he34c, he34d]; refine hK _ ?_; clear hK
          refine wps_nil (hK _ ?_); clear hK
          show SWp E C _ _ _
          refine SWp.reg rfl (hPB _ rfl) fun K hK => ?_
          iterate 3 (refine wps_cons rfl fun K hK => ?_; simp [hN']; refine hK _ ?_; clear hK)
          refine wps_nil (hK _ ?_); clear hK
          cases h23
          exact ⟨_, [], rfl, by simp [hN']⟩
        · refine SWp.condF' (b := r30) (by simp) hb33 ?_
          refine SWp.skip ?_
          show SWp E C _ _ _
          refine SWp.reg rfl (hPB _ rfl) fun K hK => ?_
          iterate 3 (refine wps_cons rfl fun K hK => ?_; simp [hN']; refine hK _ ?_; clear hK)
          refine wps_nil (hK _ ?_); clear hK
          cases h23
          exact ⟨_, [], rfl, by simp [hN']⟩
      · refine SWp.condF' (b := decide (k22 < (list17.length : Int))) (by simp) hb27 ?_
        refine SWp.exit ?_
        have h37 := congrArg some (ho24 _ (Option.some.inj h23).symm)
        cases h37
        exact hK19 _ () [] trivial (by simp [hN'])
    refine SWp.seqR rfl (hPB _ rfl) fun K hK => ?_
    iterate 2 (refine wps_cons rfl fun K hK => ?_; simp [hN']; refine hK _ ?_; clear hK)
    refine wps_nil (hK _ ?_); clear hK
    cases h
    refine SWp.ret ?_
    simp [thenS, inBlockS, res47]
end Go.Proofs.T
set_option linter.unusedVariables false
set_option linter.unusedSimpArgs false
set_option maxHeartbeats 1000000
namespace Go.Proofs.T
open Go.OM
theorem res72 : Tryd.f72.results.toList = [.tmp 2] := rfl
theorem ent72 : Enters E.P 72 := enters_of Tryd.func72 (by simp [Tryd.f72]) rfl
theorem spec_l14Reached_ok (c1 : GCode) {r0 : List Bool} (h : spec_l14Reached c1 = some r0) : Ok E 72 [.val (GCode.enc false c1)] [.sl true 1 (List.map vb r0)] [] := by
  refine ok_of_body (fn := Tryd.f72) Tryd.func72 rfl (by simp [Tryd.f72]) fun C hN hP => ?_
  have hPB : ∀ l, pinK [] l = true → pinB C.pin l = true := pinB_of (by rw [hP]; rfl)
  have hN' : C.N = 60 := hN
  clear hN
  unfold spec_l14Reached at h
  refine SWp.seqR rfl (hPB _ rfl) fun K hK => ?_
  iterate 2 (refine wps_cons rfl fun K hK => ?_; simp [hN']; refine hK _ ?_; clear hK)
  refine wps_nil (hK _ ?_); clear hK
  refine SWp.seqR rfl (hPB _ rfl) fun K hK => ?_
  iterate 3 (refine wps_cons rfl fun K hK => ?_; simp [hN']; refine hK _ ?_; clear hK)
  obtain ⟨l2, hl2, h⟩ := bind_some h
  obtain ⟨hl2a, hl2b, hl2c, hl2d⟩ := mkI_some hl2
  have hl2f : List.replicate (c1.Words.length : Int).toNat (vb false) = List.map vb l2 := rep_map (f := vb) hl2d
  try simp only [Int.toNat_natCast] at hl2f
  iterate 2 (refine wps_cons rfl fun K hK => ?_; simp [hN', hl2a, hl2b, hl2c, hl2f]; refine hK _ ?_; clear hK)
  refine wps_nil (hK _ ?_); clear hK
  refine SWp.seqR rfl (hPB _ rfl) fun K hK => ?_
  iterate 2 (refine wps_cons rfl fun K hK => ?_; simp [hN']; refine hK _ ?_; clear hK)
  refine wps_nil (hK _ ?_); clear hK
  refine SWp.seqR rfl (hPB _ rfl) fun K hK => ?_
  refine wps_cons rfl fun K hK => ?_; simp [hN']; refine hK _ ?_; clear hK
  obtain ⟨e3, he3, h⟩ := bind_some h
  obtain ⟨he3a, he3b, he3c, he3d⟩ := getI_some he3
  have he3e : 0 < l2.length := by omega
  have he3g : l2[0]? = some e3 := he3c
  have he3i : l2[0] = e3 := he3d he3e
  refine wps_cons rfl fun K hK => ?_; simp [hN', he3a, he3b, he3c, he3d, he3e, he3g, he3i]; refine hK _ ?_; clear hK
  obtain ⟨l4, hl4, h⟩ := bindS_some h
  have hl4f : (List.map vb l2).set 0 (vb true) = List.map vb l4 := set_map (f := vb) hl4
  try simp only [Int.toNat_natCast] at hl4f
  refine wps_cons rfl fun K hK => ?_; simp [hN', he3a, he3b, he3c, he3d, he3e, he3g, he3i, hl4f]; refine hK _ ?_; clear hK
  refine wps_nil (hK _ ?_); clear hK
  obtain ⟨out38, hj5, h⟩ := bind_some h
  refine SWp.seqC [3] [] (fun _ : Unit => ⟨[(3, .t (.sl true 1 (List.map vb out38)))], []⟩) (fun _ => True) (fun _ _ => ?_) fun K6 hK6 => ?_
  rotate_left
  · refine SWp.block ?_
    refine SWp.loopO [] [1, 3, 4] [1] (fun v : (List Bool) × (List Int) => ⟨[(1, .ref (.box 1) 0 []), (3, .t (.sl true 1 (List.map vb v.1))), (4, .t (.sl true 1 (List.map vi v.2)))], [(1, [vs c1.Name, vi c1.Params, .sl false 1 (List.map vi c1.Locals), .sl false 7 (List.map (GIns.enc false) c1.Words)])]⟩) (spec_l14Reached_l1 c1) _ (l4, [0]) hj5 (by simp [hN']) ?_
    intro g s12 h10 ho11
    obtain ⟨out8, way9⟩ := g
    simp only [spec_l14Reached_l1] at h10
    try dsimp only
    refine SWp.seq ?_
    refine SWp.seqR rfl (hPB _ rfl) fun K hK => ?_
    iterate 3 (refine wps_cons rfl fun K hK => ?_; simp [hN']; refine hK _ ?_; clear hK)
    refine wps_nil (hK _ ?_); clear hK
    rcases ite_or h10 with ⟨hb13, h10⟩ | ⟨hb14, h10⟩
    · refine SWp.condT' (b := decide ((way9.length : Int) > 0)) (by simp) hb13 ?_
      refine SWp.skip ?_
      show SWp E C _ _ _
      refine SWp.block ?_
      refine SWp.seqR rfl (hPB _ rfl) fun K hK => ?_
      iterate 4 (refine wps_cons rfl fun K hK => ?_; simp [hN']; refine hK _ ?_; clear hK)
      obtain ⟨e15, he15, h10⟩ := bind_some h10
      obtain ⟨he15a, he15b, he15c, he15d⟩ := getI_some he15
      have he15j := he15b; try simp at he15j
      try simp only [Int.toNat_natCast] at he15c he15d
      iterate 3 (refine wps_cons rfl fun K hK => ?_; simp [hN', he15a, he15b, he15c, he15d, he15j]; refine hK _ ?_; clear hK)
      refine wps_nil (hK _ ?_); clear hK
      refine SWp.seqR rfl (hPB _ rfl) fun K hK => ?_
      iterate 4 (refine wps_cons rfl fun K hK => ?_; simp [hN']; refine hK _ ?_; clear hK)
      obtain ⟨l16, hl16, h10⟩ := bind_some h10
      obtain ⟨hl16a, hl16b, hl16c, hl16d, hl16e, hl16g, hl16i, hl16j⟩ := subI_some hl16
      have hl16f : (List.map vi way9).take (IntKind.wrap .i64 ((way9.length : Int) - 1)).toNat = List.map vi l16 := by subst hl16e; simp
      have hl16m := hl16f; try simp at hl16m
      have hl16k : 0 ≤ way9.length := by omega
      iterate 2 (refine wps_cons rfl fun K hK => ?_; simp [hN', hl16a, hl16b, hl16c, hl16d, hl16f, hl16g, hl16i, hl16j, hl16m, hl16k]; refine hK _ ?_; clear hK)
      refine wps_nil (hK _ ?_); clear hK
      refine SWp.seqR rfl (hPB _ rfl) fun K hK => ?_
      iterate 2 (refine wps_cons rfl fun K hK => ?_; simp [hN']; refine hK _ ?_; clear hK)
      obtain ⟨r17, hc18, h10⟩ := bind_some h10
      refine wps_call [(.take, .tmp 29), (.take, .tmp 30)] rfl rfl ent47 (spec_Next_ok _ _ hc18) fun K hK => ?_; simp [hN']; refine hK _ ?_; clear hK
      refine wps_cons rfl fun K hK => ?_; simp [hN']; refine hK _ ?_; clear hK
      refine wps_nil (hK _ ?_); clear hK
      refine SWp.seqR rfl (hPB _ rfl) fun K hK => ?_
      refine wps_cons rfl fun K hK => ?_; simp [hN']; refine hK _ ?_; clear hK
      refine wps_nil (hK _ ?_); clear hK
      refine SWp.block ?_
      refine SWp.loopO [] [1, 3, 4, 6, 7] [1] (fun v : (List Bool) × (List Int) × Int => ⟨[(1, .ref (.box 1) 0 []), (3, .t (.sl true 1 (List.map vb v.1))), (4, .t (.sl true 1 (List.map vi v.2.1))), (6, .t (.sl true 1 (List.map vi r17))), (7, .t (vi v.2.2))], [(1, [vs c1.Name, vi c1.Params, .sl false 1 (List.map vi c1.Locals), .sl false 7 (List.map (GIns.enc false) c1.Words)])]⟩) (spec_l14Reached_l2 r17) _ (out8, l16, 0) h10 (by simp [hN']) ?_
      intro g s24 h22 ho23
      obtain ⟨out19, way20, k21⟩ := g
      simp only [spec_l14Reached_l2] at h22
      try dsimp only
      refine SWp.seq ?_
      refine SWp.seqR rfl (hPB _ rfl) fun K hK => ?_
      iterate 4 (refine wps_cons rfl fun K hK => ?_; simp [hN']; refine hK _ ?_; clear hK)
      refine wps_nil (hK _ ?_); clear hK
      rcases ite_or h22 with ⟨hb25, h22⟩ | ⟨hb26, h22⟩
      · refine SWp.condT' (b := decide (k21 < (r17.length : Int))) (by simp) hb25 ?_
        refine SWp.skip ?_
        show SWp E C _ _ _
        refine SWp.seq ?_
        refine SWp.block ?_
        refine SWp.seqR rfl (hPB _ rfl) fun K hK => ?_
        iterate 3 (refine wps_cons rfl fun K hK => ?_; simp [hN']; refine hK _ ?_; clear hK)
        obtain ⟨e27, he27, h22⟩ := bind_some h22
        obtain ⟨he27a, he27b, he27c, he27d⟩ := getI_some he27
        iterate 2 (refine wps_cons rfl fun K hK => ?_; simp [hN', he27a, he27b, he27c, he27d]; refine hK _ ?_; clear hK)
        obtain ⟨e28, he28, h22⟩ := bind_some h22
        obtain ⟨he28a, he28b, he28c, he28d⟩ := getI_some he28
        iterate 3 (refine wps_cons rfl fun K hK => ?_; simp [hN', he27a, he27b, he27c, he27d, he28a, he28b, he28c, he28d]; refine hK _ ?_; clear hK)
        refine wps_nil (hK _ ?_); clear hK
        rcases ite_or h22 with ⟨hb29, h22⟩ | ⟨hb30, h22⟩
        · refine SWp.condT' (b := !e28) (by simp) hb29 ?_
          refine SWp.seqR rfl (hPB _ rfl) fun K hK => ?_
          iterate 3 (refine wps_cons rfl fun K hK => ?_; simp [hN']; refine hK _ ?_; clear hK)
          obtain ⟨e31, he31, h22⟩ := bind_some h22
          obtain ⟨he31a, he31b, he31c, he31d⟩ := getI_some he31
          iterate 2 (refine wps_cons rfl fun K hK => ?_; simp [hN', he31a, he31b, he31c, he31d]; refine hK _ ?_; clear hK)
          obtain ⟨e32, he32, h22⟩ := bind_some h22
          obtain ⟨he32a, he32b, he32c, he32d⟩ := getI_some he32
          refine wps_cons rfl fun K hK => ?_; simp [hN', he31a, he31b, he31c, he31d, he32a, he32b, he32c, he32d]; refine hK _ ?_; clear hK
          obtain ⟨l33, hl33, h22⟩ := bindS_some h22
          have hl33f : (List.map vb out19).set e31.toNat (vb true) = List.map vb l33 := set_map (f := vb) hl33
          try simp only [Int.toNat_natCast] at hl33f
          refine wps_cons rfl fun K hK => ?_; simp [hN', he31a, he31b, he31c, he31d, he32a, he32b, he32c, he32d, hl33f]; refine hK _ ?_; clear hK
          refine wps_nil (hK _ ?_); clear hK
          refine SWp.reg rfl (hPB _ rfl) fun K hK => ?_
          iterate 3 (refine wps_cons rfl fun K hK => ?_; simp [hN']; refine hK _ ?_; clear hK)
          obtain ⟨e34, he34, h22⟩ := bind_some h22
          obtain ⟨he34a, he34b, he34c, he34d⟩ := getI_some he34
          iterate 3 (refine wps_cons rfl fun K hK => ?_; simp [hN', he34a, he34b, he34c, he34d]; refine hK _ ?_; clear hK)
          obtain ⟨l35, hl35, h22⟩ := bind_some h22
          obtain ⟨hl35a, hl35b, hl35d⟩ := appI_some hl35
          have hl35f : List.map vi way20 ++ List.map vi [e34] = List.map vi l35 := app_map (f := vi) hl35d
          simp [eSl] at hl35a hl35b hl35f
          iterate 2 (refine wps_cons rfl fun K hK => ?_; simp [hN', he34a, he34b, he34c, he34d, hl35a, hl35b, hl35f]; refine hK _ ?_; clear hK)
          refine wps_nil (hK _ ?_); clear hK
          show SWp E C _ _ _
          refine SWp.reg rfl (hPB _ rfl) fun K hK => ?_
          iterate 3 (refine wps_cons rfl fun K hK => ?_; simp [hN']; refine hK _ ?_; clear hK)
          refine wps_nil (hK _ ?_); clear hK
          cases h22
          exact ⟨_, [], rfl, by simp [hN']⟩
        · refine SWp.condF' (b := !e28) (by simp) hb30 ?_
          refine SWp.skip ?_
          show SWp E C _ _ _
          refine SWp.reg rfl (hPB _ rfl) fun K hK => ?_
          iterate 3 (refine wps_cons rfl fun K hK => ?_; simp [hN']; refine hK _ ?_; clear hK)
          refine wps_nil (hK _ ?_); clear hK
          cases h22
          exact ⟨_, [], rfl, by simp [hN']⟩
      · refine SWp.condF' (b := decide (k21 < (r17.length : Int))) (by simp) hb26 ?_
        refine SWp.exit ?_
        have h36 := congrArg some (ho23 _ (Option.some.inj h22).symm)
        cases h36
        exact ⟨_, [], rfl, by simp [hN']⟩
    · refine SWp.condF' (b := decide ((way9.length : Int) > 0)) (by simp) hb14 ?_
      refine SWp.exit ?_
      have h37 := congrArg some (ho11 _ (Option.some.inj h10).symm)
      cases h37
      exact hK6 _ () [] trivial (by simp [hN'])
  refine SWp.seqR rfl (hPB _ rfl) fun K hK => ?_
  iterate 2 (refine wps_cons rfl fun K hK => ?_; simp [hN']; refine hK _ ?_; clear hK)
  refine wps_nil (hK _ ?_); clear hK
  cases h
  refine SWp.ret ?_
  simp [thenS, inBlockS, res72]
end Go.Proofs.T
set_option linter.unusedVariables false
set_option linter.unusedSimpArgs false
set_option maxHeartbeats 1000000
namespace Go.Proofs.T
open Go.OM
theorem res99 : Tryd.f99.results.toList = [.tmp 6] := rfl
theorem ent99 : Enters E.P 99 := enters_of Tryd.func99 (by simp [Tryd.f99]) rfl
theorem spec_l14Table_ok (words1 : Int) (locals2 : Int) (all3 : Bool) {r0 : List (List Bool)} (h : spec_l14Table words1 locals2 all3 = some r0) : Ok E 99 [.val (vi words1), .val (vi locals2), .val (vb all3)] [.sl true 1 (List.map (eSl true 1 vb) r0)] [] := by
  refine ok_of_body (fn := Tryd.f99) Tryd.func99 rfl (by simp [Tryd.f99]) fun C hN hP => ?_
  have hPB : ∀ l, pinK [] l = true → pinB C.pin l = true := pinB_of (by rw [hP]; rfl)
  have hN' : C.N = 33 := hN
  clear hN
  unfold spec_l14Table at h
  refine SWp.seqR rfl (hPB _ rfl) fun K hK => ?_
  refine wps_cons rfl fun K hK => ?_; simp [hN']; refine hK _ ?_; clear hK
  refine wps_nil (hK _ ?_); clear hK
  refine SWp.seqR rfl (hPB _ rfl) fun K hK => ?_
  iterate 2 (refine wps_cons rfl fun K hK => ?_; simp [hN']; refine hK _ ?_; clear hK)
  refine wps_nil (hK _ ?_); clear hK
  obtain ⟨out35, hj4, h⟩ := bind_some h
  refine SWp.seqC [7] [] (fun _ : Unit => ⟨[(7, .t (.sl true 1 (List.map (eSl true 1 vb) out35)))], []⟩) (fun _ => True) (fun _ _ => ?_) fun K5 hK5 => ?_
  rotate_left
  · refine SWp.seqR rfl (hPB _ rfl) fun K hK => ?_
    refine wps_cons rfl fun K hK => ?_; simp [hN']; refine hK _ ?_; clear hK
    refine wps_nil (hK _ ?_); clear hK
    refine SWp.block ?_
    refine SWp.loopO [] [0, 1, 2, 7, 8] [] (fun v : (List (List Bool)) × Int => ⟨[(0, .t (vi words1)), (1, .t (vi locals2)), (2, .t (vb all3)), (7, .t (.sl true 1 (List.map (eSl true 1 vb) v.1))), (8, .t (vi v.2))], []⟩) (spec_l14Table_l1 words1 locals2 all3) _ ([], 0) hj4 (by simp [hN']) ?_
    intro g s11 h9 ho10
    obtain ⟨out7, i8⟩ := g
    simp only [spec_l14Table_l1] at h9
    try dsimp only
    refine SWp.seq ?_
    refine SWp.seqR rfl (hPB _ rfl) fun K hK => ?_
    iterate 3 (refine wps_cons rfl fun K hK => ?_; simp [hN']; refine hK _ ?_; clear hK)
    refine wps_nil (hK _ ?_); clear hK
    rcases ite_or h9 with ⟨hb12, h9⟩ | ⟨hb13, h9⟩
    · refine SWp.condT' (b := decide (i8 < words1)) (by simp) hb12 ?_
      refine SWp.skip ?_
      show SWp E C _ _ _
      obtain ⟨out33, hj14, h9⟩ := bind_some h9
      refine SWp.seqC [0, 1, 2, 7, 8] [] (fun _ : Unit => ⟨[(0, .t (vi words1)), (1, .t (vi locals2)), (2, .t (vb all3)), (7, .t (.sl true 1 (List.map (eSl true 1 vb) out33))), (8, .t (vi i8))], []⟩) (fun _ => True) (fun _ _ => ?_) fun K15 hK15 => ?_
      rotate_left
      · refine SWp.block ?_
        refine SWp.seqR rfl (hPB _ rfl) fun K hK => ?_
        refine wps_cons rfl fun K hK => ?_; simp [hN']; refine hK _ ?_; clear hK
        obtain ⟨l17, hl17, hj14⟩ := bind_some hj14
        obtain ⟨hl17a, hl17b, hl17c, hl17d⟩ := mkI_some hl17
        have hl17f : List.replicate locals2.toNat (vb false) = List.map vb l17 := rep_map (f := vb) hl17d
        try simp only [Int.toNat_natCast] at hl17f
        iterate 2 (refine wps_cons rfl fun K hK => ?_; simp [hN', hl17a, hl17b, hl17c, hl17f]; refine hK _ ?_; clear hK)
        refine wps_nil (hK _ ?_); clear hK
        obtain ⟨row31, hj18, hj14⟩ := bind_some hj14
        refine SWp.seqC [0, 1, 2, 7, 8, 9] [] (fun _ : Unit => ⟨[(0, .t (vi words1)), (1, .t (vi locals2)), (2, .t (vb all3)), (7, .t (.sl true 1 (List.map (eSl true 1 vb) out7))), (8, .t (vi i8)), (9, .t (.sl true 1 (List.map vb row31)))], []⟩) (fun _ => True) (fun _ _ => ?_) fun K19 hK19 => ?_
        rotate_left
        · refine SWp.seqR rfl (hPB _ rfl) fun K hK => ?_
          refine wps_cons rfl fun K hK => ?_; simp [hN']; refine hK _ ?_; clear hK
          refine wps_nil (hK _ ?_); clear hK
          refine SWp.block ?_
          refine SWp.loopO [] [0, 1, 2, 7, 8, 9, 10] [] (fun v : (List Bool) × Int => ⟨[(0, .t (vi words1)), (1, .t (vi locals2)), (2, .t (vb all3)), (7, .t (.sl true 1 (List.map (eSl true 1 vb) out7))), (8, .t (vi i8)), (9, .t (.sl true 1 (List.map vb v.1))), (10, .t (vi v.2))], []⟩) (spec_l14Table_l2 locals2 all3) _ (l17, 0) hj18 (by simp [hN']) ?_
          intro g s25 h23 ho24
          obtain ⟨row21, k22⟩ := g
          simp only [spec_l14Table_l2] at h23
          try dsimp only
          refine SWp.seq ?_
          refine SWp.seqR rfl (hPB _ rfl) fun K hK => ?_
          iterate 3 (refine wps_cons rfl fun K hK => ?_; simp [hN']; refine hK _ ?_; clear hK)
          refine wps_nil (hK _ ?_); clear hK
          rcases ite_or h23 with ⟨hb26, h23⟩ | ⟨hb27, h23⟩
          · refine SWp.condT' (b := decide (k22 < locals2)) (by simp) hb26 ?_
            refine SWp.skip ?_
            show SWp E C _ _ _
            refine SWp.seq ?_
            refine SWp.block ?_
            refine SWp.reg rfl (hPB _ rfl) fun K hK => ?_
            iterate 3 (refine wps_cons rfl fun K hK => ?_; simp [hN']; refine hK _ ?_; clear hK)
            obtain ⟨e28, he28, h23⟩ := bind_some h23
            obtain ⟨he28a, he28b, he28c, he28d⟩ := getI_some he28
            refine wps_cons rfl fun K hK => ?_; simp [hN', he28a, he28b, he28c, he28d]; refine hK _ ?_; clear hK
            obtain ⟨l29, hl29, h23⟩ := bindS_some h23
            have hl29f : (List.map vb row21).set k22.toNat (vb all3) = List.map vb l29 := set_map (f := vb) hl29
            try simp only [Int.toNat_natCast] at hl29f
            refine wps_cons rfl fun K hK => ?_; simp [hN', he28a, he28b, he28c, he28d, hl29f]; refine hK _ ?_; clear hK
            refine wps_nil (hK _ ?_); clear hK
            show SWp E C _ _ _
            refine SWp.reg rfl (hPB _ rfl) fun K hK => ?_
            iterate 3 (refine wps_cons rfl fun K hK => ?_; simp [hN']; refine hK _ ?_; clear hK)
            refine wps_nil (hK _ ?_); clear hK
            cases h23
            exact ⟨_, [], rfl, by simp [hN']⟩
          · refine SWp.condF' (b := decide (k22 < locals2)) (by simp) hb27 ?_
            refine SWp.exit ?_
            have h30 := congrArg some (ho24 _ (Option.some.inj h23).symm)
            cases h30
            exact hK19 _ () [] trivial (by simp [hN'])
        refine SWp.reg rfl (hPB _ rfl) fun K hK => ?_
        iterate 3 (refine wps_cons rfl fun K hK => ?_; simp [hN']; refine hK _ ?_; clear hK)
        obtain ⟨l32, hl32, hj14⟩ := bind_some hj14
        obtain ⟨hl32a, hl32b, hl32d⟩ := appI_some hl32
        have hl32f : List.map (eSl true 1 vb) out7 ++ List.map (eSl true 1 vb) [row31] = List.map (eSl true 1 vb) l32 := app_map (f := (eSl true 1 vb)) hl32d
        simp [eSl, eSl] at hl32a hl32b hl32f
        iterate 2 (refine wps_cons rfl fun K hK => ?_; simp [hN', hl32a, hl32b, hl32f]; refine hK _ ?_; clear hK)
        refine wps_nil (hK _ ?_); clear hK
        cases hj14
        exact hK15 _ () [] trivial (by simp [hN'])
      refine SWp.reg rfl (hPB _ rfl) fun K hK => ?_
      iterate 3 (refine wps_cons rfl fun K hK => ?_; simp [hN']; refine hK _ ?_; clear hK)
      refine wps_nil (hK _ ?_); clear hK
      cases h9
      exact ⟨_, [], rfl, by simp [hN']⟩
    · refine SWp.condF' (b := decide (i8 < words1)) (by simp) hb13 ?_
      refine SWp.exit ?_
      have h34 := congrArg some (ho10 _ (Option.some.inj h9).symm)
      cases h34
      exact hK5 _ () [] trivial (by simp [hN'])
  refine SWp.seqR rfl (hPB _ rfl) fun K hK => ?_
  iterate 2 (refine wps_cons rfl fun K hK => ?_; simp [hN']; refine hK _ ?_; clear hK)
  refine wps_nil (hK _ ?_); clear hK
  cases h
  refine SWp.ret ?_
  simp [thenS, inBlockS, res99]
end Go.Proofs.T
set_option linter.unusedVariables false
set_option linter.unusedSimpArgs false
set_option maxHeartbeats 1000000
namespace Go.Proofs.T
open Go.OM
theorem res123 : Tryd.f123.results.toList = [.tmp 2] := rfl
theorem ent123 : Enters E.P 123 := enters_of Tryd.func123 (by simp [Tryd.f123]) rfl
theorem spec_Writes_ok (x1 : GIns) {r0 : Int} (h : spec_Writes x1 = some r0) : Ok E 123 [.val (GIns.enc false x1)] [vi r0] [] := by
  refine ok_of_body (fn := Tryd.f123) Tryd.func123 rfl (by simp [Tryd.f123]) fun C hN hP => ?_
  have hPB : ∀ l, pinK [] l = true → pinB C.pin l = true := pinB_of (by rw [hP]; rfl)
  have hN' : C.N = 8 := hN
  clear hN
  unfold spec_Writes at h
  refine SWp.seqR rfl (hPB _ rfl) fun K hK => ?_
  iterate 2 (refine wps_cons rfl fun K hK => ?_; simp [hN']; refine hK _ ?_; clear hK)
  refine wps_nil (hK _ ?_); clear hK
  refine SWp.seq ?_
  refine SWp.seqR rfl (hPB _ rfl) fun K hK => ?_
  iterate 2 (refine wps_cons rfl fun K hK => ?_; simp [hN']; refine hK _ ?_; clear hK)
  obtain ⟨r2, hc3, h⟩ := bind_some h
  refine wps_call [(.take, .tmp 4), (.take, .const (.int .i64 1)), (.take, .const (.int .i64 14))] rfl rfl ent82 (spec_l01In_ok _ _ _ hc3) fun K hK => ?_; simp [hN']; refine hK _ ?_; clear hK
  refine wps_nil (hK _ ?_); clear hK
  rcases ite_or h with ⟨hb4, h⟩ | ⟨hb5, h⟩
  · refine SWp.condT' (b := r2) (by simp) hb4 ?_
    refine SWp.seqR rfl (hPB _ rfl) fun K hK => ?_
    iterate 3 (refine wps_cons rfl fun K hK => ?_; simp [hN']; refine hK _ ?_; clear hK)
    refine wps_nil (hK _ ?_); clear hK
    cases h
    refine SWp.ret ?_
    simp [thenS, inBlockS, res123]
  · refine SWp.condF' (b := r2) (by simp) hb5 ?_
    refine SWp.skip ?_
    show SWp E C _ _ _
    refine SWp.seqR rfl (hPB _ rfl) fun K hK => ?_
    refine wps_cons rfl fun K hK => ?_; simp [hN']; refine hK _ ?_; clear hK
    refine wps_nil (hK _ ?_); clear hK
    cases h
    refine SWp.ret ?_
    simp [thenS, inBlockS, res123]
end Go.Proofs.T
set_option linter.unusedVariables false
set_option linter.unusedSimpArgs false
set_option maxHeartbeats 1000000
namespace Go.Proofs.T
open Go.OM
theorem res100 : Tryd.f100.results.toList = [.tmp 4] := rfl
theorem ent100 : Enters E.P 100 := enters_of Tryd.func100 (by simp [Tryd.f100]) rfl
theorem spec_l14Behind_ok (x1 : GIns) (has2 : List Bool) {r0 : List Bool} (h : spec_l14Behind x1 has2 = some r0) : Ok E 100 [.val (GIns.enc false x1), .val (.sl false 1 (List.map vb has2))] [.sl true 1 (List.map vb r0)] [] := by
  refine ok_of_body (fn := Tryd.f100) Tryd.func100 rfl (by simp [Tryd.f100]) fun C hN hP => ?_
  have hPB : ∀ l, pinK [] l = true → pinB C.pin l = true := pinB_of (by rw [hP]; rfl)
  have hN' : C.N = 49 := hN
  clear hN
  unfold spec_l14Behind at h
  refine SWp.seqR rfl (hPB _ rfl) fun K hK => ?_
  iterate 2 (refine wps_cons rfl fun K hK => ?_; simp [hN']; refine hK _ ?_; clear hK)
  refine wps_nil (hK _ ?_); clear hK
  refine SWp.seqR rfl (hPB _ rfl) fun K hK => ?_
  iterate 2 (refine wps_cons rfl fun K hK => ?_; simp [hN']; refine hK _ ?_; clear hK)
  obtain ⟨l3, hl3, h⟩ := bind_some h
  obtain ⟨hl3a, hl3b, hl3d⟩ := appI_some hl3
  simp [eSl] at hl3a hl3b
  iterate 2 (refine wps_cons rfl fun K hK => ?_; simp [hN', hl3a, hl3b]; refine hK _ ?_; clear hK)
  refine wps_nil (hK _ ?_); clear hK
  obtain ⟨out34, hj4, h⟩ := bind_some h
  refine SWp.seqC [2, 5] [2] (fun _ : Unit => ⟨[(2, .ref (.box 2) 0 []), (5, .t (.sl true 1 (List.map vb out34)))], [(2, [vi x1.Op, vi x1.A, vi x1.B, vi x1.C, vi x1.Num, vs x1.Name, .sl false 1 (List.map vi x1.Args)])]⟩) (fun _ => True) (fun _ _ => ?_) fun K5 hK5 => ?_
  rotate_left
  · refine SWp.seqR rfl (hPB _ rfl) fun K hK => ?_
    iterate 2 (refine wps_cons rfl fun K hK => ?_; simp [hN']; refine hK _ ?_; clear hK)
    refine wps_nil (hK _ ?_); clear hK
    refine SWp.block ?_
    obtain ⟨v12, hj7, hj4⟩ := bind_some hj4
    refine SWp.seqC [2, 5, 11, 12] [2] (fun _ : Unit => ⟨[(2, .ref (.box 2) 0 []), (5, .t (.sl true 1 (List.map vb has2))), (11, .t (vi x1.Op)), (12, .t (vb v12))], [(2, [vi x1.Op, vi x1.A, vi x1.B, vi x1.C, vi x1.Num, vs x1.Name, .sl false 1 (List.map vi x1.Args)])]⟩) (fun _ => True) (fun _ _ => ?_) fun K8 hK8 => ?_
    rotate_left
    · refine SWp.seqR rfl (hPB _ rfl) fun K hK => ?_
      iterate 2 (refine wps_cons rfl fun K hK => ?_; simp [hN']; refine hK _ ?_; clear hK)
      refine wps_nil (hK _ ?_); clear hK
      rcases ite_or hj7 with ⟨hb10, hj7⟩ | ⟨hb11, hj7⟩
      · refine SWp.condT' (b := x1.Op == 3) (by simp) hb10 ?_
        refine SWp.skip ?_
        cases hj7
        exact hK8 _ () [] trivial (by simp [hN'])
      · refine SWp.condF' (b := x1.Op == 3) (by simp) hb11 ?_
        refine SWp.reg rfl (hPB _ rfl) fun K hK => ?_
        iterate 2 (refine wps_cons rfl fun K hK => ?_; simp [hN']; refine hK _ ?_; clear hK)
        refine wps_nil (hK _ ?_); clear hK
        cases hj7
        exact hK8 _ () [] trivial (by simp [hN'])
    rcases ite_or hj4 with ⟨hb13, hj4⟩ | ⟨hb14, hj4⟩
    · refine SWp.condT' (b := v12) (by simp) hb13 ?_
      refine SWp.reg rfl (hPB _ rfl) fun K hK => ?_
      iterate 3 (refine wps_cons rfl fun K hK => ?_; simp [hN']; refine hK _ ?_; clear hK)
      obtain ⟨e15, he15, hj4⟩ := bind_some hj4
      obtain ⟨he15a, he15b, he15c, he15d⟩ := getI_some he15
      have he15j := he15b; try simp at he15j
      try simp only [Int.toNat_natCast] at he15c he15d
      refine wps_cons rfl fun K hK => ?_; simp [hN', he15a, he15b, he15c, he15d, he15j]; refine hK _ ?_; clear hK
      obtain ⟨l16, hl16, hj4⟩ := bindS_some hj4
      have hl16f : (List.map vb has2).set x1.B.toNat (vb false) = List.map vb l16 := set_map (f := vb) hl16
      try simp only [Int.toNat_natCast] at hl16f
      refine wps_cons rfl fun K hK => ?_; simp [hN', he15a, he15b, he15c, he15d, he15j, hl16f]; refine hK _ ?_; clear hK
      refine wps_nil (hK _ ?_); clear hK
      cases hj4
      exact hK5 _ () [] trivial (by simp [hN'])
    · refine SWp.condF' (b := v12) (by simp) hb14 ?_
      refine SWp.seqR rfl (hPB _ rfl) fun K hK => ?_
      iterate 2 (refine wps_cons rfl fun K hK => ?_; simp [hN']; refine hK _ ?_; clear hK)
      refine wps_nil (hK _ ?_); clear hK
      rcases ite_or hj4 with ⟨hb17, hj4⟩ | ⟨hb18, hj4⟩
      · refine SWp.condT' (b := x1.Op == 13) (by simp) hb17 ?_
        refine SWp.seqR rfl (hPB _ rfl) fun K hK => ?_
        refine wps_cons rfl fun K hK => ?_; simp [hN']; refine hK _ ?_; clear hK
        refine wps_nil (hK _ ?_); clear hK
        refine SWp.block ?_
        refine SWp.loopO [] [2, 5, 6] [2] (fun v : (List Bool) × Int => ⟨[(2, .ref (.box 2) 0 []), (5, .t (.sl true 1 (List.map vb v.1))), (6, .t (vi v.2))], [(2, [vi x1.Op, vi x1.A, vi x1.B, vi x1.C, vi x1.Num, vs x1.Name, .sl false 1 (List.map vi x1.Args)])]⟩) (spec_l14Behind_l1 x1) _ (has2, 0) hj4 (by simp [hN']) ?_
        intro g s23 h21 ho22
        obtain ⟨out19, i20⟩ := g
        simp only [spec_l14Behind_l1] at h21
        try dsimp only
        refine SWp.seq ?_
        refine SWp.seqR rfl (hPB _ rfl) fun K hK => ?_
        iterate 5 (refine wps_cons rfl fun K hK => ?_; simp [hN']; refine hK _ ?_; clear hK)
        refine wps_nil (hK _ ?_); clear hK
        rcases ite_or h21 with ⟨hb24, h21⟩ | ⟨hb25, h21⟩
        · refine SWp.condT' (b := decide (i20 < (x1.Args.length : Int))) (by simp) hb24 ?_
          refine SWp.skip ?_
          show SWp E C _ _ _
          refine SWp.seq ?_
          refine SWp.block ?_
          refine SWp.reg rfl (hPB _ rfl) fun K hK => ?_
          iterate 4 (refine wps_cons rfl fun K hK => ?_; simp [hN']; refine hK _ ?_; clear hK)
          obtain ⟨e26, he26, h21⟩ := bind_some h21
          obtain ⟨he26a, he26b, he26c, he26d⟩ := getI_some he26
          iterate 2 (refine wps_cons rfl fun K hK => ?_; simp [hN', he26a, he26b, he26c, he26d]; refine hK _ ?_; clear hK)
          obtain ⟨e27, he27, h21⟩ := bind_some h21
          obtain ⟨he27a, he27b, he27c, he27d⟩ := getI_some he27
          refine wps_cons rfl fun K hK => ?_; simp [hN', he26a, he26b, he26c, he26d, he27a, he27b, he27c, he27d]; refine hK _ ?_; clear hK
          obtain ⟨l28, hl28, h21⟩ := bindS_some h21
          have hl28f : (List.map vb out19).set e26.toNat (vb false) = List.map vb l28 := set_map (f := vb) hl28
          try simp only [Int.toNat_natCast] at hl28f
          refine wps_cons rfl fun K hK => ?_; simp [hN', he26a, he26b, he26c, he26d, he27a, he27b, he27c, he27d, hl28f]; refine hK _ ?_; clear hK
          refine wps_nil (hK _ ?_); clear hK
          show SWp E C _ _ _
          refine SWp.reg rfl (hPB _ rfl) fun K hK => ?_
          iterate 3 (refine wps_cons rfl fun K hK => ?_; simp [hN']; refine hK _ ?_; clear hK)
          refine wps_nil (hK _ ?_); clear hK
          cases h21
          exact ⟨_, [], rfl, by simp [hN']⟩
        · refine SWp.condF' (b := decide (i20 < (x1.Args.length : Int))) (by simp) hb25 ?_
          refine SWp.exit ?_
          have h29 := congrArg some (ho22 _ (Option.some.inj h21).symm)
          cases h29
          exact hK5 _ () [] trivial (by simp [hN'])
      · refine SWp.condF' (b := x1.Op == 13) (by simp) hb18 ?_
        refine SWp.seqR rfl (hPB _ rfl) fun K hK => ?_
        iterate 2 (refine wps_cons rfl fun K hK => ?_; simp [hN']; refine hK _ ?_; clear hK)
        refine wps_nil (hK _ ?_); clear hK
        rcases ite_or hj4 with ⟨hb30, hj4⟩ | ⟨hb31, hj4⟩
        · refine SWp.condT' (b := x1.Op == 17) (by simp) hb30 ?_
          refine SWp.reg rfl (hPB _ rfl) fun K hK => ?_
          iterate 3 (refine wps_cons rfl fun K hK => ?_; simp [hN']; refine hK _ ?_; clear hK)
          obtain ⟨e32, he32, hj4⟩ := bind_some hj4
          obtain ⟨he32a, he32b, he32c, he32d⟩ := getI_some he32
          have he32j := he32b; try simp at he32j
          try simp only [Int.toNat_natCast] at he32c he32d
          refine wps_cons rfl fun K hK => ?_; simp [hN', he32a, he32b, he32c, he32d, he32j]; refine hK _ ?_; clear hK
          obtain ⟨l33, hl33, hj4⟩ := bindS_some hj4
          have hl33f : (List.map vb has2).set x1.A.toNat (vb false) = List.map vb l33 := set_map (f := vb) hl33
          try simp only [Int.toNat_natCast] at hl33f
          refine wps_cons rfl fun K hK => ?_; simp [hN', he32a, he32b, he32c, he32d, he32j, hl33f]; refine hK _ ?_; clear hK
          refine wps_nil (hK _ ?_); clear hK
          cases hj4
          exact hK5 _ () [] trivial (by simp [hN'])
        · refine SWp.condF' (b := x1.Op == 17) (by simp) hb31 ?_
          refine SWp.skip ?_
          cases hj4
          exact hK5 _ () [] trivial (by simp [hN'])
  refine SWp.seq ?_
  refine SWp.seqR rfl (hPB _ rfl) fun K hK => ?_
  refine wps_cons rfl fun K hK => ?_; simp [hN']; refine hK _ ?_; clear hK
  obtain ⟨r35, hc36, h⟩ := bind_some h
  refine wps_call [(.take, .tmp 41)] rfl rfl ent123 (spec_Writes_ok _ hc36) fun K hK => ?_; simp [hN']; refine hK _ ?_; clear hK
  refine wps_cons rfl fun K hK => ?_; simp [hN']; refine hK _ ?_; clear hK
  refine wps_nil (hK _ ?_); clear hK
  rcases ite_or h with ⟨hb37, h⟩ | ⟨hb38, h⟩
  · refine SWp.condT' (b := decide (r35 ≥ 0)) (by simp) hb37 ?_
    refine SWp.reg rfl (hPB _ rfl) fun K hK => ?_
    iterate 2 (refine wps_cons rfl fun K hK => ?_; simp [hN']; refine hK _ ?_; clear hK)
    obtain ⟨r39, hc40, h⟩ := bind_some h
    refine wps_call [(.take, .tmp 45)] rfl rfl ent123 (spec_Writes_ok _ hc40) fun K hK => ?_; simp [hN']; refine hK _ ?_; clear hK
    obtain ⟨e41, he41, h⟩ := bind_some h
    obtain ⟨he41a, he41b, he41c, he41d⟩ := getI_some he41
    refine wps_cons rfl fun K hK => ?_; simp [hN', he41a, he41b, he41c, he41d]; refine hK _ ?_; clear hK
    obtain ⟨l42, hl42, h⟩ := bindS_some h
    have hl42f : (List.map vb out34).set r39.toNat (vb true) = List.map vb l42 := set_map (f := vb) hl42
    try simp only [Int.toNat_natCast] at hl42f
    refine wps_cons rfl fun K hK => ?_; simp [hN', he41a, he41b, he41c, he41d, hl42f]; refine hK _ ?_; clear hK
    refine wps_nil (hK _ ?_); clear hK
    show SWp E C _ _ _
    refine SWp.seqR rfl (hPB _ rfl) fun K hK => ?_
    iterate 2 (refine wps_cons rfl fun K hK => ?_; simp [hN']; refine hK _ ?_; clear hK)
    refine wps_nil (hK _ ?_); clear hK
    cases h
    refine SWp.ret ?_
    simp [thenS, inBlockS, res100]
  · refine SWp.condF' (b := decide (r35 ≥ 0)) (by simp) hb38 ?_
    refine SWp.skip ?_
    show SWp E C _ _ _
    refine SWp.seqR rfl (hPB _ rfl) fun K hK => ?_
    iterate 2 (refine wps_cons rfl fun K hK => ?_; simp [hN']; refine hK _ ?_; clear hK)
    refine wps_nil (hK _ ?_); clear hK
    cases h
    refine SWp.ret ?_
    simp [thenS, inBlockS, res100]
end Go.Proofs.T
set_option linter.unusedVariables false
set_option linter.unusedSimpArgs false
set_option maxHeartbeats 1000000
namespace Go.Proofs.T
open Go.OM
theorem res73 : Tryd.f73.results.toList = [.tmp 4] := rfl
theorem ent73 : Enters E.P 73 := enters_of Tryd.func73 (by simp [Tryd.f73]) rfl
theorem spec_l14Has_ok (c1 : GCode) (reached2 : List Bool) {r0 : List (List Bool)} (h : spec_l14Has c1 reached2 = some r0) : Ok E 73 [.val (GCode.enc false c1), .val (.sl false 1 (List.map vb reached2))] [.sl true 1 (List.map (eSl true 1 vb) r0)] [] := by
  refine ok_of_body (fn := Tryd.f73) Tryd.func73 rfl (by simp [Tryd.f73]) fun C hN hP => ?_
  have hPB : ∀ l, pinK [] l = true → pinB C.pin l = true := pinB_of (by rw [hP]; rfl)
  have hN' : C.N = 115 := hN
  clear hN
  unfold spec_l14Has at h
  refine SWp.seqR rfl (hPB _ rfl) fun K hK => ?_
  iterate 2 (refine wps_cons rfl fun K hK => ?_; simp [hN']; refine hK _ ?_; clear hK)
  refine wps_nil (hK _ ?_); clear hK
  refine SWp.seqR rfl (hPB _ rfl) fun K hK => ?_
  iterate 6 (refine wps_cons rfl fun K hK => ?_; simp [hN']; refine hK _ ?_; clear hK)
  obtain ⟨r3, hc4, h⟩ := bind_some h
  refine wps_call [(.take, .tmp 16), (.take, .tmp 19), (.take, .const (.bool true))] rfl rfl ent99 (spec_l14Table_ok _ _ _ hc4) fun K hK => ?_; simp [hN']; refine hK _ ?_; clear hK
  refine wps_cons rfl fun K hK => ?_; simp [hN']; refine hK _ ?_; clear hK
  refine wps_nil (hK _ ?_); clear hK
  obtain ⟨out20, hj5, h⟩ := bind_some h
  refine SWp.seqC [1, 2, 5] [2] (fun _ : Unit => ⟨[(1, .t (.sl false 1 (List.map vb reached2))), (2, .ref (.box 2) 0 []), (5, .t (.sl true 1 (List.map (eSl true 1 vb) out20)))], [(2, [vs c1.Name, vi c1.Params, .sl false 1 (List.map vi c1.Locals), .sl false 7 (List.map (GIns.enc false) c1.Words)])]⟩) (fun _ => True) (fun _ _ => ?_) fun K6 hK6 => ?_
  rotate_left
  · refine SWp.seqR rfl (hPB _ rfl) fun K hK => ?_
    iterate 3 (refine wps_cons rfl fun K hK => ?_; simp [hN']; refine hK _ ?_; clear hK)
    refine wps_nil (hK _ ?_); clear hK
    refine SWp.block ?_
    refine SWp.loopO [] [1, 2, 5, 6] [2] (fun v : (List (List Bool)) × Int => ⟨[(1, .t (.sl false 1 (List.map vb reached2))), (2, .ref (.box 2) 0 []), (5, .t (.sl true 1 (List.map (eSl true 1 vb) v.1))), (6, .t (vi v.2))], [(2, [vs c1.Name, vi c1.Params, .sl false 1 (List.map vi c1.Locals), .sl false 7 (List.map (GIns.enc false) c1.Words)])]⟩) (spec_l14Has_l1 c1) _ (r3, c1.Params) hj5 (by simp [hN']) ?_
    intro g s12 h10 ho11
    obtain ⟨out8, j9⟩ := g
    simp only [spec_l14Has_l1] at h10
    try dsimp only
    refine SWp.seq ?_
    refine SWp.seqR rfl (hPB _ rfl) fun K hK => ?_
    iterate 5 (refine wps_cons rfl fun K hK => ?_; simp [hN']; refine hK _ ?_; clear hK)
    refine wps_nil (hK _ ?_); clear hK
    rcases ite_or h10 with ⟨hb13, h10⟩ | ⟨hb14, h10⟩
    · refine SWp.condT' (b := decide (j9 < (c1.Locals.length : Int))) (by simp) hb13 ?_
      refine SWp.skip ?_
      show SWp E C _ _ _
      refine SWp.seq ?_
      refine SWp.block ?_
      refine SWp.reg rfl (hPB _ rfl) fun K hK => ?_
      refine wps_cons rfl fun K hK => ?_; simp [hN']; refine hK _ ?_; clear hK
      obtain ⟨e15, he15, h10⟩ := bind_some h10
      obtain ⟨he15a, he15b, he15c, he15d⟩ := getI_some he15
      have he15e : 0 < out8.length := by omega
      have he15g : out8[0]? = some e15 := he15c
      have he15i : out8[0] = e15 := he15d he15e
      iterate 3 (refine wps_cons rfl fun K hK => ?_; simp [hN', he15a, he15b, he15c, he15d, he15e, he15g, he15i]; refine hK _ ?_; clear hK)
      obtain ⟨e16, he16, h10⟩ := bind_some h10
      obtain ⟨he16a, he16b, he16c, he16d⟩ := getI_some he16
      refine wps_cons rfl fun K hK => ?_; simp [hN', he15a, he15b, he15c, he15d, he15e, he15g, he15i, he16a, he16b, he16c, he16d]; refine hK _ ?_; clear hK
      obtain ⟨l17, hl17, h10⟩ := bindS_some h10
      have hl17f : (List.map vb e15).set j9.toNat (vb false) = List.map vb l17 := set_map (f := vb) hl17
      try simp only [Int.toNat_natCast] at hl17f
      obtain ⟨l18, hl18, h10⟩ := bindS_some h10
      have hl18f : (List.map (eSl true 1 vb) out8).set 0 (.sl true 1 (List.map vb l17)) = List.map (eSl true 1 vb) l18 := set_map (f := (eSl true 1 vb)) hl18
      try simp only [Int.toNat_natCast] at hl18f
      refine wps_cons rfl fun K hK => ?_; simp [hN', he15a, he15b, he15c, he15d, he15e, he15g, he15i, he16a, he16b, he16c, he16d, hl17f, hl18f]; refine hK _ ?_; clear hK
      refine wps_nil (hK _ ?_); clear hK
      show SWp E C _ _ _
      refine SWp.reg rfl (hPB _ rfl) fun K hK => ?_
      iterate 3 (refine wps_cons rfl fun K hK => ?_; simp [hN']; refine hK _ ?_; clear hK)
      refine wps_nil (hK _ ?_); clear hK
      cases h10
      exact ⟨_, [], rfl, by simp [hN']⟩
    · refine SWp.condF' (b := decide (j9 < (c1.Locals.length : Int))) (by simp) hb14 ?_
      refine SWp.exit ?_
      have h19 := congrArg some (ho11 _ (Option.some.inj h10).symm)
      cases h19
      exact hK6 _ () [] trivial (by simp [hN'])
  refine SWp.seqR rfl (hPB _ rfl) fun K hK => ?_
  refine wps_cons rfl fun K hK => ?_; simp [hN']; refine hK _ ?_; clear hK
  refine wps_nil (hK _ ?_); clear hK
  obtain ⟨out106, hj21, h⟩ := bind_some h
  refine SWp.seqC [5] [] (fun _ : Unit => ⟨[(5, .t (.sl true 1 (List.map (eSl true 1 vb) out106)))], []⟩) (fun _ => True) (fun _ _ => ?_) fun K22 hK22 => ?_
  rotate_left
  · refine SWp.seqR rfl (hPB _ rfl) fun K hK => ?_
    refine wps_cons rfl fun K hK => ?_; simp [hN']; refine hK _ ?_; clear hK
    refine wps_nil (hK _ ?_); clear hK
    refine SWp.block ?_
    refine SWp.loopO [] [1, 2, 5, 7, 8] [2] (fun v : (List (List Bool)) × Bool × Int => ⟨[(1, .t (.sl false 1 (List.map vb reached2))), (2, .ref (.box 2) 0 []), (5, .t (.sl true 1 (List.map (eSl true 1 vb) v.1))), (7, .t (vb v.2.1)), (8, .t (vi v.2.2))], [(2, [vs c1.Name, vi c1.Params, .sl false 1 (List.map vi c1.Locals), .sl false 7 (List.map (GIns.enc false) c1.Words)])]⟩) (spec_l14Has_l2 c1 reached2) _ (out20, true, 0) hj21 (by simp [hN']) ?_
    intro g s29 h27 ho28
    obtain ⟨out24, some25, round26⟩ := g
    simp only [spec_l14Has_l2] at h27
    try dsimp only
    refine SWp.seq ?_
    obtain ⟨v34, hj30, h27⟩ := bind_some h27
    refine SWp.seqRC rfl (hPB _ rfl) [1, 2, 5, 8, 47] [2] (fun _ : Unit => ⟨[(1, .t (.sl false 1 (List.map vb reached2))), (2, .ref (.box 2) 0 []), (5, .t (.sl true 1 (List.map (eSl true 1 vb) out24))), (8, .t (vi round26)), (47, .t (vb v34))], [(2, [vs c1.Name, vi c1.Params, .sl false 1 (List.map vi c1.Locals), .sl false 7 (List.map (GIns.enc false) c1.Words)])]⟩) (fun _ => True) (fun _ _ => ?_) fun K31 hK31 => ?_
    rotate_left
    · refine wps_cons rfl fun K hK => ?_; simp [hN']; refine hK _ ?_; clear hK
      refine wps_cons rfl fun K hK => ?_; simp [hN']; refine hK _ ?_; clear hK
      rcases ite_or hj30 with ⟨hb32, hj30⟩ | ⟨hb33, hj30⟩
      · have hb32s := hb32
        try simp at hb32s
        iterate 11 (refine wps_cons rfl fun K hK => ?_; simp [hN', hb32, hb32s]; refine hK _ ?_; clear hK)
        refine wps_nil ?_
        cases hj30
        exact hK31 _ () [] trivial (by simp [hN', hb32, hb32s])
      · have hb33s := hb33
        try simp at hb33s
        iterate 10 (refine wps_off fun K hK => ?_; simp [hN', hb33, hb33s]; refine hK _ ?_; clear hK)
        refine wps_cons rfl fun K hK => ?_; simp [hN', hb33, hb33s]; refine hK _ ?_; clear hK
        refine wps_nil ?_
        cases hj30
        exact hK31 _ () [] trivial (by simp [hN', hb33, hb33s])
    rcases ite_or h27 with ⟨hb35, h27⟩ | ⟨hb36, h27⟩
    · refine SWp.condT' (b := v34) (by simp) hb35 ?_
      refine SWp.skip ?_
      show SWp E C _ _ _
      obtain ⟨⟨out103, some104⟩, hj37, h27⟩ := bind_some h27
      try dsimp only at h27
      refine SWp.seqC [1, 2, 5, 7, 8] [2] (fun _ : Unit => ⟨[(1, .t (.sl false 1 (List.map vb reached2))), (2, .ref (.box 2) 0 []), (5, .t (.sl true 1 (List.map (eSl true 1 vb) out103))), (7, .t (vb some104)), (8, .t (vi round26))], [(2, [vs c1.Name, vi c1.Params, .sl false 1 (List.map vi c1.Locals), .sl false 7 (List.map (GIns.enc false) c1.Words)])]⟩) (fun _ => True) (fun _ _ => ?_) fun K38 hK38 => ?_
      rotate_left
      · refine SWp.block ?_
        refine SWp.seqR rfl (hPB _ rfl) fun K hK => ?_
        refine wps_cons rfl fun K hK => ?_; simp [hN']; refine hK _ ?_; clear hK
        refine wps_nil (hK _ ?_); clear hK
        refine SWp.seqR rfl (hPB _ rfl) fun K hK => ?_
        refine wps_cons rfl fun K hK => ?_; simp [hN']; refine hK _ ?_; clear hK
        refine wps_nil (hK _ ?_); clear hK
        refine SWp.block ?_
        refine SWp.loopO [] [1, 2, 5, 7, 8, 9] [2] (fun v : (List (List Bool)) × Bool × Int => ⟨[(1, .t (.sl false 1 (List.map vb reached2))), (2, .ref (.box 2) 0 []), (5, .t (.sl true 1 (List.map (eSl true 1 vb) v.1))), (7, .t (vb v.2.1)), (8, .t (vi round26)), (9, .t (vi v.2.2))], [(2, [vs c1.Name, vi c1.Params, .sl false 1 (List.map vi c1.Locals), .sl false 7 (List.map (GIns.enc false) c1.Words)])]⟩) (spec_l14Has_l3 c1 reached2) _ (out24, false, 0) hj37 (by simp [hN']) ?_
        intro g s45 h43 ho44
        obtain ⟨out40, some41, i42⟩ := g
        simp only [spec_l14Has_l3] at h43
        try dsimp only
        refine SWp.seq ?_
        refine SWp.seqR rfl (hPB _ rfl) fun K hK => ?_
        iterate 5 (refine wps_cons rfl fun K hK => ?_; simp [hN']; refine hK _ ?_; clear hK)
        refine wps_nil (hK _ ?_); clear hK
        rcases ite_or h43 with ⟨hb46, h43⟩ | ⟨hb47, h43⟩
        · refine SWp.condT' (b := decide (i42 < (c1.Words.length : Int))) (by simp) hb46 ?_
          refine SWp.skip ?_
          show SWp E C _ _ _
          obtain ⟨⟨out100, some101⟩, hj48, h43⟩ := bind_some h43
          try dsimp only at h43
          refine SWp.seqC [1, 2, 5, 7, 8, 9] [2] (fun _ : Unit => ⟨[(1, .t (.sl false 1 (List.map vb reached2))), (2, .ref (.box 2) 0 []), (5, .t (.sl true 1 (List.map (eSl true 1 vb) out100))), (7, .t (vb some101)), (8, .t (vi round26)), (9, .t (vi i42))], [(2, [vs c1.Name, vi c1.Params, .sl false 1 (List.map vi c1.Locals), .sl false 7 (List.map (GIns.enc false) c1.Words)])]⟩) (fun _ => True) (fun _ _ => ?_) fun K49 hK49 => ?_
          rotate_left
          · refine SWp.block ?_
            refine SWp.seq ?_
            refine SWp.seqR rfl (hPB _ rfl) fun K hK => ?_
            iterate 2 (refine wps_cons rfl fun K hK => ?_; simp [hN']; refine hK _ ?_; clear hK)
            obtain ⟨e51, he51, hj48⟩ := bind_some hj48
            obtain ⟨he51a, he51b, he51c, he51d⟩ := getI_some he51
            iterate 3 (refine wps_cons rfl fun K hK => ?_; simp [hN', he51a, he51b, he51c, he51d]; refine hK _ ?_; clear hK)
            refine wps_nil (hK _ ?_); clear hK
            rcases ite_or hj48 with ⟨hb52, hj48⟩ | ⟨hb53, hj48⟩
            · refine SWp.condT' (b := !e51) (by simp) hb52 ?_
              refine SWp.exit ?_
              cases hj48
              exact hK49 _ () [] trivial (by simp [hN'])
            · refine SWp.condF' (b := !e51) (by simp) hb53 ?_
              refine SWp.skip ?_
              show SWp E C _ _ _
              refine SWp.seq ?_
              obtain ⟨e55, he55, hj48⟩ := bind_some hj48
              obtain ⟨he55a, he55b, he55c, he55d⟩ := getI_some he55
              obtain ⟨e56, he56, hj48⟩ := bind_some hj48
              obtain ⟨he56a, he56b, he56c, he56d⟩ := getI_some he56
              refine SWp.drawT rfl (hPB _ rfl) [(62, .ref (.box 2) 3 []), (63, .t (.sl false 7 (List.map (GIns.enc false) c1.Words))), (64, .t (vi i42)), (65, .rop [vi e55.Op, vi e55.A, vi e55.B, vi e55.C, vi e55.Num, vs e55.Name, .sl false 1 (List.map vi e55.Args)] 0), (66, .t (GIns.enc false e55)), (67, .al (.slot 5) 0 [] none), (68, .t (vi i42)), (69, .ref (.slot 5) 0 [(i42.toNat, 0)]), (70, .al (.slot 5) 0 [(i42.toNat, 0)] none)] [[], [0], [], [0, 1, 2], [0, 1, 2, 3], [], [], [5, 6], [5, 6, 7], [0, 1, 2, 3, 4, 5, 6, 7, 8], [0, 1, 2, 3, 4, 5, 6, 7, 8, 9]] (by simp) (by simp) (by simp [look]) rfl rfl rfl ?_ fun K hK => ?_
              · refine ⟨?_, ?_, ?_, ?_, ?_, ?_, ?_, ?_, ?_, trivial⟩
                all_goals (intro τ hbx hb hd hf K hK; try simp [vsAt] at hd; simp [vsAt] at hf; first | (refine wps_cons rfl fun K' hK' => ?_; simp [hN', hbx, hb, hd, hf, he55a, he55b, he55c, he55d, he56a, he56b, he56c, he56d]; exact hK' _ (wps_nil (hK _ (by simp [vsAt, hbx, he55a, he55b, he55c, he55d, he56a, he56b, he56c, he56d])))))
              obtain ⟨r57, hc58, hj48⟩ := bind_some hj48
              refine wps_call [(.take, .tmp 66), (.bor, .tmp 70)] rfl rfl ent100 (spec_l14Behind_ok _ _ hc58) fun K hK => ?_; simp [hN', he55a, he55b, he55c, he55d, he56a, he56b, he56c, he56d]; refine hK _ ?_; clear hK
              refine wps_cons rfl fun K hK => ?_; simp [hN', he55a, he55b, he55c, he55d, he56a, he56b, he56c, he56d]; refine hK _ ?_; clear hK
              refine wps_nil (hK _ ?_); clear hK
              show SWp E C _ _ _
              refine SWp.seqR rfl (hPB _ rfl) fun K hK => ?_
              iterate 2 (refine wps_cons rfl fun K hK => ?_; simp [hN']; refine hK _ ?_; clear hK)
              obtain ⟨r59, hc60, hj48⟩ := bind_some hj48
              refine wps_call [(.take, .tmp 72), (.take, .tmp 73)] rfl rfl ent47 (spec_Next_ok _ _ hc60) fun K hK => ?_; simp [hN']; refine hK _ ?_; clear hK
              refine wps_cons rfl fun K hK => ?_; simp [hN']; refine hK _ ?_; clear hK
              refine wps_nil (hK _ ?_); clear hK
              refine SWp.seqR rfl (hPB _ rfl) fun K hK => ?_
              refine wps_cons rfl fun K hK => ?_; simp [hN']; refine hK _ ?_; clear hK
              refine wps_nil (hK _ ?_); clear hK
              refine SWp.block ?_
              refine SWp.loopO [] [1, 2, 5, 7, 8, 9, 10, 11, 12] [2] (fun v : (List (List Bool)) × Bool × Int => ⟨[(1, .t (.sl false 1 (List.map vb reached2))), (2, .ref (.box 2) 0 []), (5, .t (.sl true 1 (List.map (eSl true 1 vb) v.1))), (7, .t (vb v.2.1)), (8, .t (vi round26)), (9, .t (vi i42)), (10, .t (.sl true 1 (List.map vb r57))), (11, .t (.sl true 1 (List.map vi r59))), (12, .t (vi v.2.2))], [(2, [vs c1.Name, vi c1.Params, .sl false 1 (List.map vi c1.Locals), .sl false 7 (List.map (GIns.enc false) c1.Words)])]⟩) (spec_l14Has_l4 c1 r57 r59) _ (out40, some41, 0) hj48 (by simp [hN']) ?_
              intro g s66 h64 ho65
              obtain ⟨out61, some62, k63⟩ := g
              simp only [spec_l14Has_l4] at h64
              try dsimp only
              refine SWp.seq ?_
              refine SWp.seqR rfl (hPB _ rfl) fun K hK => ?_
              iterate 4 (refine wps_cons rfl fun K hK => ?_; simp [hN']; refine hK _ ?_; clear hK)
              refine wps_nil (hK _ ?_); clear hK
              rcases ite_or h64 with ⟨hb67, h64⟩ | ⟨hb68, h64⟩
              · refine SWp.condT' (b := decide (k63 < (r59.length : Int))) (by simp) hb67 ?_
                refine SWp.skip ?_
                show SWp E C _ _ _
                obtain ⟨⟨out97, some98⟩, hj69, h64⟩ := bind_some h64
                try dsimp only at h64
                refine SWp.seqC [1, 2, 5, 7, 8, 9, 10, 11, 12] [2] (fun _ : Unit => ⟨[(1, .t (.sl false 1 (List.map vb reached2))), (2, .ref (.box 2) 0 []), (5, .t (.sl true 1 (List.map (eSl true 1 vb) out97))), (7, .t (vb some98)), (8, .t (vi round26)), (9, .t (vi i42)), (10, .t (.sl true 1 (List.map vb r57))), (11, .t (.sl true 1 (List.map vi r59))), (12, .t (vi k63))], [(2, [vs c1.Name, vi c1.Params, .sl false 1 (List.map vi c1.Locals), .sl false 7 (List.map (GIns.enc false) c1.Words)])]⟩) (fun _ => True) (fun _ _ => ?_) fun K70 hK70 => ?_
                rotate_left
                · refine SWp.block ?_
                  refine SWp.seqR rfl (hPB _ rfl) fun K hK => ?_
                  refine wps_cons rfl fun K hK => ?_; simp [hN']; refine hK _ ?_; clear hK
                  refine wps_nil (hK _ ?_); clear hK
                  refine SWp.block ?_
                  refine SWp.loopO [] [1, 2, 5, 7, 8, 9, 10, 11, 12, 13] [2] (fun v : (List (List Bool)) × Bool × Int => ⟨[(1, .t (.sl false 1 (List.map vb reached2))), (2, .ref (.box 2) 0 []), (5, .t (.sl true 1 (List.map (eSl true 1 vb) v.1))), (7, .t (vb v.2.1)), (8, .t (vi round26)), (9, .t (vi i42)), (10, .t (.sl true 1 (List.map vb r57))), (11, .t (.sl true 1 (List.map vi r59))), (12, .t (vi k63)), (13, .t (vi v.2.2))], [(2, [vs c1.Name, vi c1.Params, .sl false 1 (List.map vi c1.Locals), .sl false 7 (List.map (GIns.enc false) c1.Words)])]⟩) (spec_l14Has_l5 c1 r57 r59 k63) _ (out61, some62, 0) hj69 (by simp [hN']) ?_
                  intro g s77 h75 ho76
                  obtain ⟨out72, some73, j74⟩ := g
                  simp only [spec_l14Has_l5] at h75
                  try dsimp only
                  refine SWp.seq ?_
                  refine SWp.seqR rfl (hPB _ rfl) fun K hK => ?_
                  iterate 5 (refine wps_cons rfl fun K hK => ?_; simp [hN']; refine hK _ ?_; clear hK)
                  refine wps_nil (hK _ ?_); clear hK
                  rcases ite_or h75 with ⟨hb78, h75⟩ | ⟨hb79, h75⟩
                  · refine SWp.condT' (b := decide (j74 < (c1.Locals.length : Int))) (by simp) hb78 ?_
                    refine SWp.skip ?_
                    show SWp E C _ _ _
                    refine SWp.seq ?_
                    refine SWp.block ?_
                    obtain ⟨v88, hj80, h75⟩ := bind_some h75
                    refine SWp.seqRC rfl (hPB _ rfl) [1, 2, 5, 7, 8, 9, 10, 11, 12, 13, 104] [2] (fun _ : Unit => ⟨[(1, .t (.sl false 1 (List.map vb reached2))), (2, .ref (.box 2) 0 []), (5, .t (.sl true 1 (List.map (eSl true 1 vb) out72))), (7, .t (vb some73)), (8, .t (vi round26)), (9, .t (vi i42)), (10, .t (.sl true 1 (List.map vb r57))), (11, .t (.sl true 1 (List.map vi r59))), (12, .t (vi k63)), (13, .t (vi j74)), (104, .t (vb v88))], [(2, [vs c1.Name, vi c1.Params, .sl false 1 (List.map vi c1.Locals), .sl false 7 (List.map (GIns.enc false) c1.Words)])]⟩) (fun _ => True) (fun _ _ => ?_) fun K81 hK81 => ?_
                    rotate_left
                    · refine wps_cons rfl fun K hK => ?_; simp [hN']; refine hK _ ?_; clear hK
                      iterate 2 (refine wps_cons rfl fun K hK => ?_; simp [hN']; refine hK _ ?_; clear hK)
                      obtain ⟨e82, he82, hj80⟩ := bind_some hj80
                      obtain ⟨he82a, he82b, he82c, he82d⟩ := getI_some he82
                      iterate 2 (refine wps_cons rfl fun K hK => ?_; simp [hN', he82a, he82b, he82c, he82d]; refine hK _ ?_; clear hK)
                      obtain ⟨e83, he83, hj80⟩ := bind_some hj80
                      obtain ⟨he83a, he83b, he83c, he83d⟩ := getI_some he83
                      iterate 3 (refine wps_cons rfl fun K hK => ?_; simp [hN', he82a, he82b, he82c, he82d, he83a, he83b, he83c, he83d]; refine hK _ ?_; clear hK)
                      obtain ⟨e84, he84, hj80⟩ := bind_some hj80
                      obtain ⟨he84a, he84b, he84c, he84d⟩ := getI_some he84
                      iterate 3 (refine wps_cons rfl fun K hK => ?_; simp [hN', he82a, he82b, he82c, he82d, he83a, he83b, he83c, he83d, he84a, he84b, he84c, he84d]; refine hK _ ?_; clear hK)
                      rcases ite_or hj80 with ⟨hb85, hj80⟩ | ⟨hb86, hj80⟩
                      · have hb85s := hb85
                        try simp at hb85s
                        iterate 2 (refine wps_cons rfl fun K hK => ?_; simp [hN', he82a, he82b, he82c, he82d, he83a, he83b, he83c, he83d, he84a, he84b, he84c, he84d, hb85, hb85s]; refine hK _ ?_; clear hK)
                        obtain ⟨e87, he87, hj80⟩ := bind_some hj80
                        obtain ⟨he87a, he87b, he87c, he87d⟩ := getI_some he87
                        iterate 4 (refine wps_cons rfl fun K hK => ?_; simp [hN', he82a, he82b, he82c, he82d, he83a, he83b, he83c, he83d, he84a, he84b, he84c, he84d, hb85, hb85s, he87a, he87b, he87c, he87d]; refine hK _ ?_; clear hK)
                        refine wps_nil ?_
                        cases hj80
                        exact hK81 _ () [] trivial (by simp [hN', he82a, he82b, he82c, he82d, he83a, he83b, he83c, he83d, he84a, he84b, he84c, he84d, hb85, hb85s, he87a, he87b, he87c, he87d])
                      · have hb86s := hb86
                        try simp at hb86s
                        iterate 5 (refine wps_off fun K hK => ?_; simp [hN', he82a, he82b, he82c, he82d, he83a, he83b, he83c, he83d, he84a, he84b, he84c, he84d, hb86, hb86s]; refine hK _ ?_; clear hK)
                        refine wps_cons rfl fun K hK => ?_; simp [hN', he82a, he82b, he82c, he82d, he83a, he83b, he83c, he83d, he84a, he84b, he84c, he84d, hb86, hb86s]; refine hK _ ?_; clear hK
                        refine wps_nil ?_
                        cases hj80
                        exact hK81 _ () [] trivial (by simp [hN', he82a, he82b, he82c, he82d, he83a, he83b, he83c, he83d, he84a, he84b, he84c, he84d, hb86, hb86s])
                    rcases ite_or h75 with ⟨hb89, h75⟩ | ⟨hb90, h75⟩
                    · refine SWp.condT' (b := v88) (by simp) hb89 ?_
                      refine SWp.seqR rfl (hPB _ rfl) fun K hK => ?_
                      iterate 3 (refine wps_cons rfl fun K hK => ?_; simp [hN']; refine hK _ ?_; clear hK)
                      obtain ⟨e91, he91, h75⟩ := bind_some h75
                      obtain ⟨he91a, he91b, he91c, he91d⟩ := getI_some he91
                      iterate 2 (refine wps_cons rfl fun K hK => ?_; simp [hN', he91a, he91b, he91c, he91d]; refine hK _ ?_; clear hK)
                      obtain ⟨e92, he92, h75⟩ := bind_some h75
                      obtain ⟨he92a, he92b, he92c, he92d⟩ := getI_some he92
                      iterate 3 (refine wps_cons rfl fun K hK => ?_; simp [hN', he91a, he91b, he91c, he91d, he92a, he92b, he92c, he92d]; refine hK _ ?_; clear hK)
                      obtain ⟨e93, he93, h75⟩ := bind_some h75
                      obtain ⟨he93a, he93b, he93c, he93d⟩ := getI_some he93
                      refine wps_cons rfl fun K hK => ?_; simp [hN', he91a, he91b, he91c, he91d, he92a, he92b, he92c, he92d, he93a, he93b, he93c, he93d]; refine hK _ ?_; clear hK
                      obtain ⟨l94, hl94, h75⟩ := bindS_some h75
                      have hl94f : (List.map vb e92).set j74.toNat (vb false) = List.map vb l94 := set_map (f := vb) hl94
                      try simp only [Int.toNat_natCast] at hl94f
                      obtain ⟨l95, hl95, h75⟩ := bindS_some h75
                      have hl95f : (List.map (eSl true 1 vb) out72).set e91.toNat (.sl true 1 (List.map vb l94)) = List.map (eSl true 1 vb) l95 := set_map (f := (eSl true 1 vb)) hl95
                      try simp only [Int.toNat_natCast] at hl95f
                      refine wps_cons rfl fun K hK => ?_; simp [hN', he91a, he91b, he91c, he91d, he92a, he92b, he92c, he92d, he93a, he93b, he93c, he93d, hl94f, hl95f]; refine hK _ ?_; clear hK
                      refine wps_nil (hK _ ?_); clear hK
                      refine SWp.reg rfl (hPB _ rfl) fun K hK => ?_
                      refine wps_cons rfl fun K hK => ?_; simp [hN']; refine hK _ ?_; clear hK
                      refine wps_nil (hK _ ?_); clear hK
                      show SWp E C _ _ _
                      refine SWp.reg rfl (hPB _ rfl) fun K hK => ?_
                      iterate 3 (refine wps_cons rfl fun K hK => ?_; simp [hN']; refine hK _ ?_; clear hK)
                      refine wps_nil (hK _ ?_); clear hK
                      cases h75
                      exact ⟨_, [], rfl, by simp [hN']⟩
                    · refine SWp.condF' (b := v88) (by simp) hb90 ?_
                      refine SWp.skip ?_
                      show SWp E C _ _ _
                      refine SWp.reg rfl (hPB _ rfl) fun K hK => ?_
                      iterate 3 (refine wps_cons rfl fun K hK => ?_; simp [hN']; refine hK _ ?_; clear hK)
                      refine wps_nil (hK _ ?_); clear hK
                      cases h75
                      exact ⟨_, [], rfl, by simp [hN']⟩
                  · refine SWp.condF' (b := decide (j74 < (c1.Locals.length : Int))) (by simp) hb79 ?_
                    refine SWp.exit ?_
                    have h96 := congrArg some (ho76 _ (Option.some.inj h75).symm)
                    cases h96
                    exact hK70 _ () [] trivial (by simp [hN'])
                refine SWp.reg rfl (hPB _ rfl) fun K hK => ?_
                iterate 3 (refine wps_cons rfl fun K hK => ?_; simp [hN']; refine hK _ ?_; clear hK)
                refine wps_nil (hK _ ?_); clear hK
                cases h64
                exact ⟨_, [], rfl, by simp [hN']⟩
              · refine SWp.condF' (b := decide (k63 < (r59.length : Int))) (by simp) hb68 ?_
                refine SWp.exit ?_
                have h99 := congrArg some (ho65 _ (Option.some.inj h64).symm)
                cases h99
                exact hK49 _ () [] trivial (by simp [hN'])
          refine SWp.reg rfl (hPB _ rfl) fun K hK => ?_
          iterate 3 (refine wps_cons rfl fun K hK => ?_; simp [hN']; refine hK _ ?_; clear hK)
          refine wps_nil (hK _ ?_); clear hK
          cases h43
          exact ⟨_, [], rfl, by simp [hN']⟩
        · refine SWp.condF' (b := decide (i42 < (c1.Words.length : Int))) (by simp) hb47 ?_
          refine SWp.exit ?_
          have h102 := congrArg some (ho44 _ (Option.some.inj h43).symm)
          cases h102
          exact hK38 _ () [] trivial (by simp [hN'])
      refine SWp.reg rfl (hPB _ rfl) fun K hK => ?_
      iterate 3 (refine wps_cons rfl fun K hK => ?_; simp [hN']; refine hK _ ?_; clear hK)
      refine wps_nil (hK _ ?_); clear hK
      cases h27
      exact ⟨_, [], rfl, by simp [hN']⟩
    · refine SWp.condF' (b := v34) (by simp) hb36 ?_
      refine SWp.exit ?_
      have h105 := congrArg some (ho28 _ (Option.some.inj h27).symm)
      cases h105
      exact hK22 _ () [] trivial (by simp [hN'])
  refine SWp.seqR rfl (hPB _ rfl) fun K hK => ?_
  iterate 2 (refine wps_cons rfl fun K hK => ?_; simp [hN']; refine hK _ ?_; clear hK)
  refine wps_nil (hK _ ?_); clear hK
  cases h
  refine SWp.ret ?_
  simp [thenS, inBlockS, res73]
end Go.Proofs.T
set_option linter.unusedVariables false
set_option linter.unusedSimpArgs false
set_option maxHeartbeats 1000000
namespace Go.Proofs.T
open Go.OM
theorem res74 : Tryd.f74.results.toList = [.tmp 2] := rfl
theorem ent74 : Enters E.P 74 := enters_of Tryd.func74 (by simp [Tryd.f74]) rfl
theorem spec_Reads_ok (x1 : GIns) {r0 : List Int} (h : spec_Reads x1 = some r0) : Ok E 74 [.val (GIns.enc false x1)] [.sl true 1 (List.map vi r0)] [] := by
  refine ok_of_body (fn := Tryd.f74) Tryd.func74 rfl (by simp [Tryd.f74]) fun C hN hP => ?_
  have hPB : ∀ l, pinK [] l = true → pinB C.pin l = true := pinB_of (by rw [hP]; rfl)
  have hN' : C.N = 75 := hN
  clear hN
  unfold spec_Reads at h
  refine SWp.seqR rfl (hPB _ rfl) fun K hK => ?_
  iterate 2 (refine wps_cons rfl fun K hK => ?_; simp [hN']; refine hK _ ?_; clear hK)
  refine wps_nil (hK _ ?_); clear hK
  refine SWp.seqR rfl (hPB _ rfl) fun K hK => ?_
  iterate 2 (refine wps_cons rfl fun K hK => ?_; simp [hN']; refine hK _ ?_; clear hK)
  refine wps_nil (hK _ ?_); clear hK
  obtain ⟨out51, hj2, h⟩ := bind_some h
  refine SWp.seqC [3] [] (fun _ : Unit => ⟨[(3, .t (.sl true 1 (List.map vi out51)))], []⟩) (fun _ => True) (fun _ _ => ?_) fun K3 hK3 => ?_
  rotate_left
  · refine SWp.block ?_
    refine SWp.seqR rfl (hPB _ rfl) fun K hK => ?_
    iterate 4 (refine wps_cons rfl fun K hK => ?_; simp [hN']; refine hK _ ?_; clear hK)
    refine wps_nil (hK _ ?_); clear hK
    rcases ite_or hj2 with ⟨hb5, hj2⟩ | ⟨hb6, hj2⟩
    · refine SWp.condT' (b := x1.Op == 15) (by simp) hb5 ?_
      obtain ⟨r7, hc8, hj2⟩ := bind_some hj2
      refine SWp.drawD rfl (hPB _ rfl) [10, 11, 12, 13, 14, 15] [[(10, .al (.slot 3) 0 [] none)], [(11, .ref (.box 1) 1 [])], [(12, .t (vi x1.A))], [(13, .t (.sl true 1 (List.map vi r7))), (3, .t (.dead)), (10, .u)], [(14, .ref (.box 1) 2 [])], [(15, .t (vi x1.B))]] [[], [], [1], [0, 1, 2], [], [4], [0, 1, 2, 3, 4, 5], [0, 1, 2, 3, 4, 5, 6]] (by simp) rfl rfl rfl ?_ fun K hK => ?_
      · refine ⟨?_, ?_, ?_, ?_, ?_, ?_, trivial⟩
        · intro D d0 g1 g2
          have d3 : D 3 = false := g2 3 (by simp) (by simp)
          cases d1 : D 1 <;> cases d2 : D 2 <;> cases d4 : D 4 <;> cases d5 : D 5 <;> (intro K hK; simp [famD, putL, upd1, d0, d1, d2, d3, d4, d5] at hK ⊢; refine wps_cons rfl fun K' hK' => ?_; simp [hN']; refine hK' _ (wps_nil ?_); first | exact hK | simpa using hK)
        · intro D d1 g1 g2
          have d2 : D 2 = false := g2 2 (by simp) (by simp)
          have d3 : D 3 = false := g2 3 (by simp) (by simp)
          cases d0 : D 0 <;> cases d4 : D 4 <;> cases d5 : D 5 <;> (intro K hK; simp [famD, putL, upd1, d0, d1, d2, d3, d4, d5] at hK ⊢; refine wps_cons rfl fun K' hK' => ?_; simp [hN']; refine hK' _ (wps_nil ?_); first | exact hK | simpa using hK)
        · intro D d2 g1 g2
          have d1 : D 1 = true := g1 1 (by simp)
          have d3 : D 3 = false := g2 3 (by simp) (by simp)
          cases d0 : D 0 <;> cases d4 : D 4 <;> cases d5 : D 5 <;> (intro K hK; simp [famD, putL, upd1, d0, d1, d2, d3, d4, d5] at hK ⊢; refine wps_cons rfl fun K' hK' => ?_; simp [hN']; refine hK' _ (wps_nil ?_); first | exact hK | simpa using hK)
        · intro D d3 g1 g2
          have d0 : D 0 = true := g1 0 (by simp)
          have d1 : D 1 = true := g1 1 (by simp)
          have d2 : D 2 = true := g1 2 (by simp)
          cases d4 : D 4 <;> cases d5 : D 5 <;> (intro K hK; simp [famD, putL, upd1, d0, d1, d2, d3, d4, d5] at hK ⊢; refine wps_call [(.take, .tmp 10), (.take, .tmp 12)] rfl rfl ent84 (spec_l11Add_ok _ _ hc8) fun K' hK' => ?_; simp [hN']; refine hK' _ (wps_nil ?_); first | exact hK | simpa using hK)
        · intro D d4 g1 g2
          have d5 : D 5 = false := g2 5 (by simp) (by simp)
          cases d0 : D 0 <;> cases d1 : D 1 <;> cases d2 : D 2 <;> cases d3 : D 3 <;> (intro K hK; simp [famD, putL, upd1, d0, d1, d2, d3, d4, d5] at hK ⊢; refine wps_cons rfl fun K' hK' => ?_; simp [hN']; refine hK' _ (wps_nil ?_); first | exact hK | simpa using hK)
        · intro D d5 g1 g2
          have d4 : D 4 = true := g1 4 (by simp)
          cases d0 : D 0 <;> cases d1 : D 1 <;> cases d2 : D 2 <;> cases d3 : D 3 <;> (intro K hK; simp [famD, putL, upd1, d0, d1, d2, d3, d4, d5] at hK ⊢; refine wps_cons rfl fun K' hK' => ?_; simp [hN']; refine hK' _ (wps_nil ?_); first | exact hK | simpa using hK)
      simp [famD, putL]
      obtain ⟨r9, hc10, hj2⟩ := bind_some hj2
      refine wps_call [(.take, .tmp 13), (.take, .tmp 15)] rfl rfl ent84 (spec_l11Add_ok _ _ hc10) fun K hK => ?_; simp [hN']; refine hK _ ?_; clear hK
      refine wps_cons rfl fun K hK => ?_; simp [hN']; refine hK _ ?_; clear hK
      refine wps_nil (hK _ ?_); clear hK
      cases hj2
      exact hK3 _ () [] trivial (by simp [hN'])
    · refine SWp.condF' (b := x1.Op == 15) (by simp) hb6 ?_
      obtain ⟨v15, hj11, hj2⟩ := bind_some hj2
      refine SWp.seqRC rfl (hPB _ rfl) [1, 3, 17] [1] (fun _ : Unit => ⟨[(1, .ref (.box 1) 0 []), (3, .t (.sl true 1 [])), (17, .t (vb v15))], [(1, [vi x1.Op, vi x1.A, vi x1.B, vi x1.C, vi x1.Num, vs x1.Name, .sl false 1 (List.map vi x1.Args)])]⟩) (fun _ => True) (fun _ _ => ?_) fun K12 hK12 => ?_
      rotate_left
      · refine wps_cons rfl fun K hK => ?_; simp [hN']; refine hK _ ?_; clear hK
        iterate 3 (refine wps_cons rfl fun K hK => ?_; simp [hN']; refine hK _ ?_; clear hK)
        rcases ite_or hj11 with ⟨hb13, hj11⟩ | ⟨hb14, hj11⟩
        · have hb13s := hb13
          try simp at hb13s
          iterate 3 (refine wps_off fun K hK => ?_; simp [hN', hb13, hb13s]; refine hK _ ?_; clear hK)
          iterate 2 (refine wps_cons rfl fun K hK => ?_; simp [hN', hb13, hb13s]; refine hK _ ?_; clear hK)
          refine wps_nil ?_
          cases hj11
          exact hK12 _ () [] trivial (by simp [hN', hb13, hb13s])
        · have hb14s := hb14
          try simp at hb14s
          iterate 5 (refine wps_cons rfl fun K hK => ?_; simp [hN', hb14, hb14s]; refine hK _ ?_; clear hK)
          refine wps_nil ?_
          cases hj11
          exact hK12 _ () [] trivial (by simp [hN', hb14, hb14s])
      rcases ite_or hj2 with ⟨hb16, hj2⟩ | ⟨hb17, hj2⟩
      · refine SWp.condT' (b := v15) (by simp) hb16 ?_
        refine SWp.reg rfl (hPB _ rfl) fun K hK => ?_
        iterate 3 (refine wps_cons rfl fun K hK => ?_; simp [hN']; refine hK _ ?_; clear hK)
        obtain ⟨r18, hc19, hj2⟩ := bind_some hj2
        refine wps_call [(.take, .tmp 26), (.take, .tmp 28)] rfl rfl ent84 (spec_l11Add_ok _ _ hc19) fun K hK => ?_; simp [hN']; refine hK _ ?_; clear hK
        refine wps_cons rfl fun K hK => ?_; simp [hN']; refine hK _ ?_; clear hK
        refine wps_nil (hK _ ?_); clear hK
        cases hj2
        exact hK3 _ () [] trivial (by simp [hN'])
      · refine SWp.condF' (b := v15) (by simp) hb17 ?_
        refine SWp.seqR rfl (hPB _ rfl) fun K hK => ?_
        iterate 4 (refine wps_cons rfl fun K hK => ?_; simp [hN']; refine hK _ ?_; clear hK)
        refine wps_nil (hK _ ?_); clear hK
        rcases ite_or hj2 with ⟨hb20, hj2⟩ | ⟨hb21, hj2⟩
        · refine SWp.condT' (b := x1.Op == 20) (by simp) hb20 ?_
          refine SWp.seqR rfl (hPB _ rfl) fun K hK => ?_
          iterate 3 (refine wps_cons rfl fun K hK => ?_; simp [hN']; refine hK _ ?_; clear hK)
          refine wps_nil (hK _ ?_); clear hK
          rcases ite_or hj2 with ⟨hb22, hj2⟩ | ⟨hb23, hj2⟩
          · refine SWp.condT' (b := x1.A != (-1)) (by simp) hb22 ?_
            refine SWp.reg rfl (hPB _ rfl) fun K hK => ?_
            iterate 3 (refine wps_cons rfl fun K hK => ?_; simp [hN']; refine hK _ ?_; clear hK)
            obtain ⟨r24, hc25, hj2⟩ := bind_some hj2
            refine wps_call [(.take, .tmp 37), (.take, .tmp 39)] rfl rfl ent84 (spec_l11Add_ok _ _ hc25) fun K hK => ?_; simp [hN']; refine hK _ ?_; clear hK
            refine wps_cons rfl fun K hK => ?_; simp [hN']; refine hK _ ?_; clear hK
            refine wps_nil (hK _ ?_); clear hK
            cases hj2
            exact hK3 _ () [] trivial (by simp [hN'])
          · refine SWp.condF' (b := x1.A != (-1)) (by simp) hb23 ?_
            refine SWp.skip ?_
            cases hj2
            exact hK3 _ () [] trivial (by simp [hN'])
        · refine SWp.condF' (b := x1.Op == 20) (by simp) hb21 ?_
          refine SWp.seqR rfl (hPB _ rfl) fun K hK => ?_
          iterate 4 (refine wps_cons rfl fun K hK => ?_; simp [hN']; refine hK _ ?_; clear hK)
          refine wps_nil (hK _ ?_); clear hK
          rcases ite_or hj2 with ⟨hb26, hj2⟩ | ⟨hb27, hj2⟩
          · refine SWp.condT' (b := x1.Op == 13) (by simp) hb26 ?_
            refine SWp.seqR rfl (hPB _ rfl) fun K hK => ?_
            refine wps_cons rfl fun K hK => ?_; simp [hN']; refine hK _ ?_; clear hK
            refine wps_nil (hK _ ?_); clear hK
            refine SWp.block ?_
            refine SWp.loopO [] [1, 3, 4] [1] (fun v : (List Int) × Int => ⟨[(1, .ref (.box 1) 0 []), (3, .t (.sl true 1 (List.map vi v.1))), (4, .t (vi v.2))], [(1, [vi x1.Op, vi x1.A, vi x1.B, vi x1.C, vi x1.Num, vs x1.Name, .sl false 1 (List.map vi x1.Args)])]⟩) (spec_Reads_l1 x1) _ ([], 0) hj2 (by simp [hN']) ?_
            intro g s32 h30 ho31
            obtain ⟨out28, i29⟩ := g
            simp only [spec_Reads_l1] at h30
            try dsimp only
            refine SWp.seq ?_
            refine SWp.seqR rfl (hPB _ rfl) fun K hK => ?_
            iterate 5 (refine wps_cons rfl fun K hK => ?_; simp [hN']; refine hK _ ?_; clear hK)
            refine wps_nil (hK _ ?_); clear hK
            rcases ite_or h30 with ⟨hb33, h30⟩ | ⟨hb34, h30⟩
            · refine SWp.condT' (b := decide (i29 < (x1.Args.length : Int))) (by simp) hb33 ?_
              refine SWp.skip ?_
              show SWp E C _ _ _
              refine SWp.seq ?_
              refine SWp.block ?_
              refine SWp.reg rfl (hPB _ rfl) fun K hK => ?_
              iterate 4 (refine wps_cons rfl fun K hK => ?_; simp [hN']; refine hK _ ?_; clear hK)
              obtain ⟨e35, he35, h30⟩ := bind_some h30
              obtain ⟨he35a, he35b, he35c, he35d⟩ := getI_some he35
              iterate 2 (refine wps_cons rfl fun K hK => ?_; simp [hN', he35a, he35b, he35c, he35d]; refine hK _ ?_; clear hK)
              obtain ⟨r36, hc37, h30⟩ := bind_some h30
              refine wps_call [(.take, .tmp 52), (.take, .tmp 57)] rfl rfl ent84 (spec_l11Add_ok _ _ hc37) fun K hK => ?_; simp [hN', he35a, he35b, he35c, he35d]; refine hK _ ?_; clear hK
              refine wps_cons rfl fun K hK => ?_; simp [hN', he35a, he35b, he35c, he35d]; refine hK _ ?_; clear hK
              refine wps_nil (hK _ ?_); clear hK
              show SWp E C _ _ _
              refine SWp.reg rfl (hPB _ rfl) fun K hK => ?_
              iterate 3 (refine wps_cons rfl fun K hK => ?_; simp [hN']; refine hK _ ?_; clear hK)
              refine wps_nil (hK _ ?_); clear hK
              cases h30
              exact ⟨_, [], rfl, by simp [hN']⟩
            · refine SWp.condF' (b := decide (i29 < (x1.Args.length : Int))) (by simp) hb34 ?_
              refine SWp.exit ?_
              have h38 := congrArg some (ho31 _ (Option.some.inj h30).symm)
              cases h38
              exact hK3 _ () [] trivial (by simp [hN'])
          · refine SWp.condF' (b := x1.Op == 13) (by simp) hb27 ?_
            refine SWp.seqR rfl (hPB _ rfl) fun K hK => ?_
            iterate 2 (refine wps_cons rfl fun K hK => ?_; simp [hN']; refine hK _ ?_; clear hK)
            obtain ⟨r39, hc40, hj2⟩ := bind_some hj2
            refine wps_call [(.take, .tmp 61)] rfl rfl ent101 (spec_l11HasB_ok _ hc40) fun K hK => ?_; simp [hN']; refine hK _ ?_; clear hK
            refine wps_cons rfl fun K hK => ?_; simp [hN']; refine hK _ ?_; clear hK
            refine wps_nil (hK _ ?_); clear hK
            rcases ite_or hj2 with ⟨hb41, hj2⟩ | ⟨hb42, hj2⟩
            · refine SWp.condT' (b := r39) (by simp) hb41 ?_
              refine SWp.seqR rfl (hPB _ rfl) fun K hK => ?_
              iterate 3 (refine wps_cons rfl fun K hK => ?_; simp [hN']; refine hK _ ?_; clear hK)
              obtain ⟨r43, hc44, hj2⟩ := bind_some hj2
              refine wps_call [(.take, .tmp 63), (.take, .tmp 65)] rfl rfl ent84 (spec_l11Add_ok _ _ hc44) fun K hK => ?_; simp [hN']; refine hK _ ?_; clear hK
              refine wps_cons rfl fun K hK => ?_; simp [hN']; refine hK _ ?_; clear hK
              refine wps_nil (hK _ ?_); clear hK
              refine SWp.seqR rfl (hPB _ rfl) fun K hK => ?_
              iterate 2 (refine wps_cons rfl fun K hK => ?_; simp [hN']; refine hK _ ?_; clear hK)
              obtain ⟨r45, hc46, hj2⟩ := bind_some hj2
              refine wps_call [(.take, .tmp 68)] rfl rfl ent102 (spec_l11HasC_ok _ hc46) fun K hK => ?_; simp [hN']; refine hK _ ?_; clear hK
              refine wps_nil (hK _ ?_); clear hK
              rcases ite_or hj2 with ⟨hb47, hj2⟩ | ⟨hb48, hj2⟩
              · refine SWp.condT' (b := r45) (by simp) hb47 ?_
                refine SWp.reg rfl (hPB _ rfl) fun K hK => ?_
                iterate 3 (refine wps_cons rfl fun K hK => ?_; simp [hN']; refine hK _ ?_; clear hK)
                obtain ⟨r49, hc50, hj2⟩ := bind_some hj2
                refine wps_call [(.take, .tmp 70), (.take, .tmp 72)] rfl rfl ent84 (spec_l11Add_ok _ _ hc50) fun K hK => ?_; simp [hN']; refine hK _ ?_; clear hK
                refine wps_cons rfl fun K hK => ?_; simp [hN']; refine hK _ ?_; clear hK
                refine wps_nil (hK _ ?_); clear hK
                cases hj2
                exact hK3 _ () [] trivial (by simp [hN'])
              · refine SWp.condF' (b := r45) (by simp) hb48 ?_
                refine SWp.skip ?_
                cases hj2
                exact hK3 _ () [] trivial (by simp [hN'])
            · refine SWp.condF' (b := r39) (by simp) hb42 ?_
              refine SWp.skip ?_
              cases hj2
              exact hK3 _ () [] trivial (by simp [hN'])
  refine SWp.seqR rfl (hPB _ rfl) fun K hK => ?_
  iterate 2 (refine wps_cons rfl fun K hK => ?_; simp [hN']; refine hK _ ?_; clear hK)
  refine wps_nil (hK _ ?_); clear hK
  cases h
  refine SWp.ret ?_
  simp [thenS, inBlockS, res74]
end Go.Proofs.T
set_option linter.unusedVariables false
set_option linter.unusedSimpArgs false
set_option maxHeartbeats 1000000
namespace Go.Proofs.T
open Go.OM
theorem res34 : Tryd.f34.results.toList = [.tmp 2] := rfl
theorem ent34 : Enters E.P 34 := enters_of Tryd.func34 (by simp [Tryd.f34]) rfl
theorem spec_Moves_ok (c1 : GCode) {r0 : Int} (h : spec_Moves c1 = some r0) : Ok E 34 [.val (GCode.enc false c1)] [vi r0] [] := by
  refine ok_of_body (fn := Tryd.f34) Tryd.func34 rfl (by simp [Tryd.f34]) fun C hN hP => ?_
  have hPB : ∀ l, pinK [] l = true → pinB C.pin l = true := pinB_of (by rw [hP]; rfl)
  have hN' : C.N = 53 := hN
  clear hN
  unfold spec_Moves at h
  refine SWp.seqR rfl (hPB _ rfl) fun K hK => ?_
  iterate 2 (refine wps_cons rfl fun K hK => ?_; simp [hN']; refine hK _ ?_; clear hK)
  refine wps_nil (hK _ ?_); clear hK
  refine SWp.seq ?_
  refine SWp.seqR rfl (hPB _ rfl) fun K hK => ?_
  refine wps_cons rfl fun K hK => ?_; simp [hN']; refine hK _ ?_; clear hK
  obtain ⟨r2, hc3, h⟩ := bind_some h
  refine wps_call [(.take, .tmp 8)] rfl rfl ent46 (spec_CodeOk_ok _ hc3) fun K hK => ?_; simp [hN']; refine hK _ ?_; clear hK
  refine wps_cons rfl fun K hK => ?_; simp [hN']; refine hK _ ?_; clear hK
  refine wps_nil (hK _ ?_); clear hK
  rcases ite_or h with ⟨hb4, h⟩ | ⟨hb5, h⟩
  · refine SWp.condT' (b := !r2) (by simp) hb4 ?_
    refine SWp.seqR rfl (hPB _ rfl) fun K hK => ?_
    refine wps_cons rfl fun K hK => ?_; simp [hN']; refine hK _ ?_; clear hK
    refine wps_nil (hK _ ?_); clear hK
    cases h
    refine SWp.ret ?_
    simp [thenS, inBlockS, res34]
  · refine SWp.condF' (b := !r2) (by simp) hb5 ?_
    refine SWp.skip ?_
    show SWp E C _ _ _
    refine SWp.seqR rfl (hPB _ rfl) fun K hK => ?_
    refine wps_cons rfl fun K hK => ?_; simp [hN']; refine hK _ ?_; clear hK
    obtain ⟨r6, hc7, h⟩ := bind_some h
    refine wps_call [(.take, .tmp 11)] rfl rfl ent72 (spec_l14Reached_ok _ hc7) fun K hK => ?_; simp [hN']; refine hK _ ?_; clear hK
    refine wps_cons rfl fun K hK => ?_; simp [hN']; refine hK _ ?_; clear hK
    refine wps_nil (hK _ ?_); clear hK
    refine SWp.seqR rfl (hPB _ rfl) fun K hK => ?_
    iterate 2 (refine wps_cons rfl fun K hK => ?_; simp [hN']; refine hK _ ?_; clear hK)
    obtain ⟨r8, hc9, h⟩ := bind_some h
    refine wps_call [(.take, .tmp 13), (.bor, .tmp 14)] rfl rfl ent73 (spec_l14Has_ok _ _ hc9) fun K hK => ?_; simp [hN']; refine hK _ ?_; clear hK
    refine wps_cons rfl fun K hK => ?_; simp [hN']; refine hK _ ?_; clear hK
    refine wps_nil (hK _ ?_); clear hK
    obtain ⟨j12, hj10, h⟩ := bind_some h
    refine SWp.seqC [] [] (fun v : Unit => ⟨[], []⟩) (fun v => j12 = Sum.inl v) (fun v hv => ?_) fun K11 hK11 => ?_
    rotate_left
    · refine SWp.seqR rfl (hPB _ rfl) fun K hK => ?_
      refine wps_cons rfl fun K hK => ?_; simp [hN']; refine hK _ ?_; clear hK
      refine wps_nil (hK _ ?_); clear hK
      refine SWp.block ?_
      refine SWp.loopO [] [1, 3, 4, 5] [1] (fun v : Int => ⟨[(1, .ref (.box 1) 0 []), (3, .t (.sl true 1 (List.map vb r6))), (4, .t (.sl true 1 (List.map (eSl true 1 vb) r8))), (5, .t (vi v))], [(1, [vs c1.Name, vi c1.Params, .sl false 1 (List.map vi c1.Locals), .sl false 7 (List.map (GIns.enc false) c1.Words)])]⟩) (spec_Moves_l1 c1 r6 r8) _ 0 hj10 (by simp [hN']) ?_
      intro g s16 h14 ho15
      obtain ⟨i13, hg⟩ : ∃ y, y = g := ⟨_, rfl⟩
      subst hg
      simp only [spec_Moves_l1] at h14
      try dsimp only
      refine SWp.seq ?_
      refine SWp.seqR rfl (hPB _ rfl) fun K hK => ?_
      iterate 5 (refine wps_cons rfl fun K hK => ?_; simp [hN']; refine hK _ ?_; clear hK)
      refine wps_nil (hK _ ?_); clear hK
      rcases ite_or h14 with ⟨hb17, h14⟩ | ⟨hb18, h14⟩
      · refine SWp.condT' (b := decide (i13 < (c1.Words.length : Int))) (by simp) hb17 ?_
        refine SWp.skip ?_
        show SWp E C _ _ _
        obtain ⟨j21, hj19, h14⟩ := bind_some h14
        refine SWp.seqC [1, 3, 4, 5] [1] (fun v : Unit => ⟨[(1, .ref (.box 1) 0 []), (3, .t (.sl true 1 (List.map vb r6))), (4, .t (.sl true 1 (List.map (eSl true 1 vb) r8))), (5, .t (vi i13))], [(1, [vs c1.Name, vi c1.Params, .sl false 1 (List.map vi c1.Locals), .sl false 7 (List.map (GIns.enc false) c1.Words)])]⟩) (fun v => j21 = Sum.inl v) (fun v hv => ?_) fun K20 hK20 => ?_
        rotate_left
        · refine SWp.block ?_
          refine SWp.seqR rfl (hPB _ rfl) fun K hK => ?_
          iterate 3 (refine wps_cons rfl fun K hK => ?_; simp [hN']; refine hK _ ?_; clear hK)
          obtain ⟨e22, he22, hj19⟩ := bind_some hj19
          obtain ⟨he22a, he22b, he22c, he22d⟩ := getI_some he22
          iterate 2 (refine wps_cons rfl fun K hK => ?_; simp [hN', he22a, he22b, he22c, he22d]; refine hK _ ?_; clear hK)
          obtain ⟨r23, hc24, hj19⟩ := bind_some hj19
          refine wps_call [(.take, .tmp 27)] rfl rfl ent74 (spec_Reads_ok _ hc24) fun K hK => ?_; simp [hN', he22a, he22b, he22c, he22d]; refine hK _ ?_; clear hK
          refine wps_cons rfl fun K hK => ?_; simp [hN', he22a, he22b, he22c, he22d]; refine hK _ ?_; clear hK
          refine wps_nil (hK _ ?_); clear hK
          refine SWp.seqR rfl (hPB _ rfl) fun K hK => ?_
          refine wps_cons rfl fun K hK => ?_; simp [hN']; refine hK _ ?_; clear hK
          refine wps_nil (hK _ ?_); clear hK
          refine SWp.block ?_
          refine SWp.loopO [] [1, 3, 4, 5, 6, 7] [1] (fun v : Int => ⟨[(1, .ref (.box 1) 0 []), (3, .t (.sl true 1 (List.map vb r6))), (4, .t (.sl true 1 (List.map (eSl true 1 vb) r8))), (5, .t (vi i13)), (6, .t (.sl true 1 (List.map vi r23))), (7, .t (vi v))], [(1, [vs c1.Name, vi c1.Params, .sl false 1 (List.map vi c1.Locals), .sl false 7 (List.map (GIns.enc false) c1.Words)])]⟩) (spec_Moves_l2 r6 r8 i13 r23) _ 0 hj19 (by simp [hN']) ?_
          intro g s28 h26 ho27
          obtain ⟨k25, hg⟩ : ∃ y, y = g := ⟨_, rfl⟩
          subst hg
          simp only [spec_Moves_l2] at h26
          try dsimp only
          refine SWp.seq ?_
          obtain ⟨v34, hj29, h26⟩ := bind_some h26
          refine SWp.seqRC rfl (hPB _ rfl) [1, 3, 4, 5, 6, 7, 38] [1] (fun _ : Unit => ⟨[(1, .ref (.box 1) 0 []), (3, .t (.sl true 1 (List.map vb r6))), (4, .t (.sl true 1 (List.map (eSl true 1 vb) r8))), (5, .t (vi i13)), (6, .t (.sl true 1 (List.map vi r23))), (7, .t (vi k25)), (38, .t (vb v34))], [(1, [vs c1.Name, vi c1.Params, .sl false 1 (List.map vi c1.Locals), .sl false 7 (List.map (GIns.enc false) c1.Words)])]⟩) (fun _ => True) (fun _ _ => ?_) fun K30 hK30 => ?_
          rotate_left
          · refine wps_cons rfl fun K hK => ?_; simp [hN']; refine hK _ ?_; clear hK
            iterate 4 (refine wps_cons rfl fun K hK => ?_; simp [hN']; refine hK _ ?_; clear hK)
            rcases ite_or hj29 with ⟨hb31, hj29⟩ | ⟨hb32, hj29⟩
            · have hb31s := hb31
              try simp at hb31s
              iterate 2 (refine wps_cons rfl fun K hK => ?_; simp [hN', hb31, hb31s]; refine hK _ ?_; clear hK)
              obtain ⟨e33, he33, hj29⟩ := bind_some hj29
              obtain ⟨he33a, he33b, he33c, he33d⟩ := getI_some he33
              iterate 3 (refine wps_cons rfl fun K hK => ?_; simp [hN', hb31, hb31s, he33a, he33b, he33c, he33d]; refine hK _ ?_; clear hK)
              refine wps_nil ?_
              cases hj29
              exact hK30 _ () [] trivial (by simp [hN', hb31, hb31s, he33a, he33b, he33c, he33d])
            · have hb32s := hb32
              try simp at hb32s
              iterate 4 (refine wps_off fun K hK => ?_; simp [hN', hb32, hb32s]; refine hK _ ?_; clear hK)
              refine wps_cons rfl fun K hK => ?_; simp [hN', hb32, hb32s]; refine hK _ ?_; clear hK
              refine wps_nil ?_
              cases hj29
              exact hK30 _ () [] trivial (by simp [hN', hb32, hb32s])
          rcases ite_or h26 with ⟨hb35, h26⟩ | ⟨hb36, h26⟩
          · refine SWp.condT' (b := v34) (by simp) hb35 ?_
            refine SWp.skip ?_
            show SWp E C _ _ _
            refine SWp.seq ?_
            refine SWp.block ?_
            refine SWp.seq ?_
            obtain ⟨e38, he38, h26⟩ := bind_some h26
            obtain ⟨he38a, he38b, he38c, he38d⟩ := getI_some he38
            obtain ⟨e39, he39, h26⟩ := bind_some h26
            obtain ⟨he39a, he39b, he39c, he39d⟩ := getI_some he39
            refine SWp.drawT rfl (hPB _ rfl) [(41, .al (.slot 4) 0 [] none), (42, .t (vi i13)), (43, .ref (.slot 4) 0 [(i13.toNat, 0)]), (44, .al (.slot 4) 0 [(i13.toNat, 0)] none), (45, .al (.slot 6) 0 [] none), (46, .t (vi k25)), (47, .ref (.slot 6) 0 [(k25.toNat, 0)]), (48, .t (vi e39))] [[], [], [0, 1], [0, 1, 2], [], [], [4, 5], [4, 5, 6], [0, 1, 2, 3, 4, 5, 6, 7], [0, 1, 2, 3, 4, 5, 6, 7, 8], [0, 1, 2, 3, 4, 5, 6, 7, 8, 9]] (by simp) (by simp) (by simp [look]) rfl rfl rfl ?_ fun K hK => ?_
            · refine ⟨?_, ?_, ?_, ?_, ?_, ?_, ?_, ?_, trivial⟩
              all_goals (intro τ hbx hb hd hf K hK; try simp [vsAt] at hd; simp [vsAt] at hf; first | (refine wps_cons rfl fun K' hK' => ?_; simp [hN', hbx, hb, hd, hf, he38a, he38b, he38c, he38d, he39a, he39b, he39c, he39d]; exact hK' _ (wps_nil (hK _ (by simp [vsAt, hbx, he38a, he38b, he38c, he38d, he39a, he39b, he39c, he39d])))))
            obtain ⟨e40, he40, h26⟩ := bind_some h26
            obtain ⟨he40a, he40b, he40c, he40d⟩ := getI_some he40
            iterate 3 (refine wps_cons rfl fun K hK => ?_; simp [hN', he38a, he38b, he38c, he38d, he39a, he39b, he39c, he39d, he40a, he40b, he40c, he40d]; refine hK _ ?_; clear hK)
            refine wps_nil (hK _ ?_); clear hK
            show SWp E C _ _ _
            rcases ite_or h26 with ⟨hb41, h26⟩ | ⟨hb42, h26⟩
            · refine SWp.condT' (b := !e40) (by simp) hb41 ?_
              refine SWp.seqR rfl (hPB _ rfl) fun K hK => ?_
              iterate 2 (refine wps_cons rfl fun K hK => ?_; simp [hN']; refine hK _ ?_; clear hK)
              refine wps_nil (hK _ ?_); clear hK
              have h43 := congrArg some (ho27 _ (Option.some.inj h26).symm)
              cases h43
              try dsimp only at h14
              have h44 := congrArg some (ho15 _ (Option.some.inj h14).symm)
              cases h44
              try dsimp only at h
              cases h
              refine SWp.ret ?_
              simp [thenS, inBlockS, res34]
            · refine SWp.condF' (b := !e40) (by simp) hb42 ?_
              refine SWp.skip ?_
              show SWp E C _ _ _
              refine SWp.reg rfl (hPB _ rfl) fun K hK => ?_
              iterate 3 (refine wps_cons rfl fun K hK => ?_; simp [hN']; refine hK _ ?_; clear hK)
              refine wps_nil (hK _ ?_); clear hK
              cases h26
              exact ⟨_, [], rfl, by simp [hN']⟩
          · refine SWp.condF' (b := v34) (by simp) hb36 ?_
            refine SWp.exit ?_
            have h45 := congrArg some (ho27 _ (Option.some.inj h26).symm)
            cases h45
            exact hK20 _ _ [] rfl (by simp [hN'])
        subst hv
        obtain ⟨⟩ := v
        try dsimp only at h14 ⊢
        refine SWp.reg rfl (hPB _ rfl) fun K hK => ?_
        iterate 3 (refine wps_cons rfl fun K hK => ?_; simp [hN']; refine hK _ ?_; clear hK)
        refine wps_nil (hK _ ?_); clear hK
        cases h14
        exact ⟨_, [], rfl, by simp [hN']⟩
      · refine SWp.condF' (b := decide (i13 < (c1.Words.length : Int))) (by simp) hb18 ?_
        refine SWp.exit ?_
        have h46 := congrArg some (ho15 _ (Option.some.inj h14).symm)
        cases h46
        exact hK11 _ _ [] rfl (by simp [hN'])
    subst hv
    obtain ⟨⟩ := v
    try dsimp only at h ⊢
    refine SWp.seqR rfl (hPB _ rfl) fun K hK => ?_
    refine wps_cons rfl fun K hK => ?_; simp [hN']; refine hK _ ?_; clear hK
    refine wps_nil (hK _ ?_); clear hK
    cases h
    refine SWp.ret ?_
    simp [thenS, inBlockS, res34]
end Go.Proofs.T
set_option linter.unusedVariables false
set_option linter.unusedSimpArgs false
set_option maxHeartbeats 1000000
namespace Go.Proofs.T
open Go.OM
theorem res66 : Tryd.f66.results.toList = [.tmp 6] := rfl
theorem ent66 : Enters E.P 66 := enters_of Tryd.func66 (by simp [Tryd.f66]) rfl
theorem impl_in_ok (n1 : Int) (low2 : Int) (high3 : Int) {r0 : Bool} (h : impl_in n1 low2 high3 = some r0) : Ok E 66 [.val (vi n1), .val (vi low2), .val (vi high3)] [vb r0] [] := by
  refine ok_of_body (fn := Tryd.f66) Tryd.func66 rfl (by simp [Tryd.f66]) fun C hN hP => ?_
  have hPB : ∀ l, pinK [] l = true → pinB C.pin l = true := pinB_of (by rw [hP]; rfl)
  have hN' : C.N = 15 := hN
  clear hN
  unfold impl_in at h
  refine SWp.seqR rfl (hPB _ rfl) fun K hK => ?_
  refine wps_cons rfl fun K hK => ?_; simp [hN']; refine hK _ ?_; clear hK
  refine wps_nil (hK _ ?_); clear hK
  obtain ⟨v8, hj4, h⟩ := bind_some h
  refine SWp.seqRC rfl (hPB _ rfl) [6] [] (fun _ : Unit => ⟨[(6, .t (vb v8))], []⟩) (fun _ => True) (fun _ _ => ?_) fun K5 hK5 => ?_
  rotate_left
  · refine wps_cons rfl fun K hK => ?_; simp [hN']; refine hK _ ?_; clear hK
    iterate 3 (refine wps_cons rfl fun K hK => ?_; simp [hN']; refine hK _ ?_; clear hK)
    rcases ite_or hj4 with ⟨hb6, hj4⟩ | ⟨hb7, hj4⟩
    · have hb6s := hb6
      try simp at hb6s
      iterate 5 (refine wps_cons rfl fun K hK => ?_; simp [hN', hb6, hb6s]; refine hK _ ?_; clear hK)
      refine wps_nil ?_
      cases hj4
      exact hK5 _ () [] trivial (by simp [hN', hb6, hb6s])
    · have hb7s := hb7
      try simp at hb7s
      iterate 3 (refine wps_off fun K hK => ?_; simp [hN', hb7, hb7s]; refine hK _ ?_; clear hK)
      iterate 2 (refine wps_cons rfl fun K hK => ?_; simp [hN', hb7, hb7s]; refine hK _ ?_; clear hK)
      refine wps_nil ?_
      cases hj4
      exact hK5 _ () [] trivial (by simp [hN', hb7, hb7s])
  cases h
  refine SWp.ret ?_
  simp [thenS, inBlockS, res66]
end Go.Proofs.T
set_option linter.unusedVariables false
set_option linter.unusedSimpArgs false
set_option maxHeartbeats 1000000
namespace Go.Proofs.T
open Go.OM
theorem res111 : Tryd.f111.results.toList = [.tmp 2] := rfl
theorem ent111 : Enters E.P 111 := enters_of Tryd.func111 (by simp [Tryd.f111]) rfl
theorem impl_isLetter_ok (b1 : Int) {r0 : Bool} (h : impl_isLetter b1 = some r0) : Ok E 111 [.val (vk .u8 b1)] [vb r0] [] := by
  refine ok_of_body (fn := Tryd.f111) Tryd.func111 rfl (by simp [Tryd.f111]) fun C hN hP => ?_
  have hPB : ∀ l, pinK [] l = true → pinB C.pin l = true := pinB_of (by rw [hP]; rfl)
  have hN' : C.N = 9 := hN
  clear hN
  unfold impl_isLetter at h
  refine SWp.seqR rfl (hPB _ rfl) fun K hK => ?_
  refine wps_cons rfl fun K hK => ?_; simp [hN']; refine hK _ ?_; clear hK
  refine wps_nil (hK _ ?_); clear hK
  obtain ⟨v6, hj2, h⟩ := bind_some h
  refine SWp.seqRC rfl (hPB _ rfl) [2] [] (fun _ : Unit => ⟨[(2, .t (vb v6))], []⟩) (fun _ => True) (fun _ _ => ?_) fun K3 hK3 => ?_
  rotate_left
  · refine wps_cons rfl fun K hK => ?_; simp [hN']; refine hK _ ?_; clear hK
    iterate 2 (refine wps_cons rfl fun K hK => ?_; simp [hN']; refine hK _ ?_; clear hK)
    rcases ite_or hj2 with ⟨hb4, hj2⟩ | ⟨hb5, hj2⟩
    · have hb4s := hb4
      try simp at hb4s
      iterate 4 (refine wps_cons rfl fun K hK => ?_; simp [hN', hb4, hb4s]; refine hK _ ?_; clear hK)
      refine wps_nil ?_
      cases hj2
      exact hK3 _ () [] trivial (by simp [hN', hb4, hb4s])
    · have hb5s := hb5
      try simp at hb5s
      iterate 2 (refine wps_off fun K hK => ?_; simp [hN', hb5, hb5s]; refine hK _ ?_; clear hK)
      iterate 2 (refine wps_cons rfl fun K hK => ?_; simp [hN', hb5, hb5s]; refine hK _ ?_; clear hK)
      refine wps_nil ?_
      cases hj2
      exact hK3 _ () [] trivial (by simp [hN', hb5, hb5s])
  cases h
  refine SWp.ret ?_
  simp [thenS, inBlockS, res111]
end Go.Proofs.T
set_option linter.unusedVariables false
set_option linter.unusedSimpArgs false
set_option maxHeartbeats 1000000
namespace Go.Proofs.T
open Go.OM
theorem res112 : Tryd.f112.results.toList = [.tmp 2] := rfl
theorem ent112 : Enters E.P 112 := enters_of Tryd.func112 (by simp [Tryd.f112]) rfl
theorem impl_isFigure_ok (b1 : Int) {r0 : Bool} (h : impl_isFigure b1 = some r0) : Ok E 112 [.val (vk .u8 b1)] [vb r0] [] := by
  refine ok_of_body (fn := Tryd.f112) Tryd.func112 rfl (by simp [Tryd.f112]) fun C hN hP => ?_
  have hPB : ∀ l, pinK [] l = true → pinB C.pin l = true := pinB_of (by rw [hP]; rfl)
  have hN' : C.N = 9 := hN
  clear hN
  unfold impl_isFigure at h
  refine SWp.seqR rfl (hPB _ rfl) fun K hK => ?_
  refine wps_cons rfl fun K hK => ?_; simp [hN']; refine hK _ ?_; clear hK
  refine wps_nil (hK _ ?_); clear hK
  obtain ⟨v6, hj2, h⟩ := bind_some h
  refine SWp.seqRC rfl (hPB _ rfl) [2] [] (fun _ : Unit => ⟨[(2, .t (vb v6))], []⟩) (fun _ => True) (fun _ _ => ?_) fun K3 hK3 => ?_
  rotate_left
  · refine wps_cons rfl fun K hK => ?_; simp [hN']; refine hK _ ?_; clear hK
    iterate 2 (refine wps_cons rfl fun K hK => ?_; simp [hN']; refine hK _ ?_; clear hK)
    rcases ite_or hj2 with ⟨hb4, hj2⟩ | ⟨hb5, hj2⟩
    · have hb4s := hb4
      try simp at hb4s
      iterate 4 (refine wps_cons rfl fun K hK => ?_; simp [hN', hb4, hb4s]; refine hK _ ?_; clear hK)
      refine wps_nil ?_
      cases hj2
      exact hK3 _ () [] trivial (by simp [hN', hb4, hb4s])
    · have hb5s := hb5
      try simp at hb5s
      iterate 2 (refine wps_off fun K hK => ?_; simp [hN', hb5, hb5s]; refine hK _ ?_; clear hK)
      iterate 2 (refine wps_cons rfl fun K hK => ?_; simp [hN', hb5, hb5s]; refine hK _ ?_; clear hK)
      refine wps_nil ?_
      cases hj2
      exact hK3 _ () [] trivial (by simp [hN', hb5, hb5s])
  cases h
  refine SWp.ret ?_
  simp [thenS, inBlockS, res112]
end Go.Proofs.T
/-
  DERIVED: THE SHELF's CONTRACTS AT THIS DUMP, IN PLAIN WORDS (tools/lay-plain.mjs out of 'TrydShelf.lean', which tools/lay-shelf.mjs wrote): THE SAME DECLARATIONS UNDER THE SAME NAMES: 'import', 'namespace', 'open', 'def', 'theorem' AND NOTHING ELSE: no command of the shelf's: FOR A HAND-IN. Each laying: the table of numbers ('.._ren') and one theorem, a field a fact of the dump's own or the kernel's comparison; each contract: ONE APPLICATION.
-/
namespace Go.Proofs
open Go.Shelf
def Tryd.lays129_ren : Go.Shelf.Ren := ⟨fun | 129 => 146 | n => n, fun | 53 => 148 | 3 => 3 | 4 => 4 | 46 => 158 | 5 => 5 | 9 => 9 | n => n, fun | n => n⟩
theorem Tryd.lays129 : Go.Proofs.Lays.n129 Tryd.prog Tryd.lays129_ren := {
  mixed := by kernel_rfl
  f129 := Tryd.func146.trans (congrArg some (by kernel_rfl))
  t3 := Tryd.underlying3
  a3 := Tryd.isAgg3
  z3 := Tryd.sizeOf3
  v3 := Tryd.zeroValue3
  t4 := Tryd.underlying4
  a4 := Tryd.isAgg4
  z4 := Tryd.sizeOf4
  v4 := Tryd.zeroValue4
  t5 := Tryd.underlying5
  a5 := Tryd.isAgg5
  z5 := Tryd.sizeOf5
  v5 := Tryd.zeroValue5
  t9 := Tryd.underlying9
  a9 := Tryd.isAgg9
  z9 := Tryd.sizeOf9
  v9 := Tryd.zeroValue9
  t46 := Tryd.underlying158
  a46 := Tryd.isAgg158
  z46 := Tryd.sizeOf158
  v46 := Tryd.zeroValue158
  t53 := Tryd.underlying148
  a53 := Tryd.isAgg148
  z53 := Tryd.sizeOf148
  v53 := Tryd.zeroValue148 }
/-- bits.Len64: "Len64 returns the minimum number of bits required to represent x; the result is 0 for x == 0.": IT RETURNS 'Lib.bitLen x'; the world is as it was. ('h0', 'h1': x is a uint64.) (LAID: no walk: one application.) -/
theorem Tryd.bits_Len64 (x : Int) (w : World) (h0 : 0 ≤ x) (h1 : x ≤ 18446744073709551615) :
    Calls Tryd.prog 146 #[.int .u64 x] w fun e w' => e = .returned (.int .i64 (Lib.bitLen x.toNat)) ∧ w' = w := Any.bits_Len64 Tryd.lays129 x w h0 h1
def Tryd.lays317_ren : Go.Shelf.Ren := ⟨fun | 317 => 145 | n => n, fun | 3 => 3 | 46 => 158 | n => n, fun | n => n⟩
theorem Tryd.lays317 : Go.Proofs.Lays.n317 Tryd.prog Tryd.lays317_ren := {
  mixed := by kernel_rfl
  f317 := Tryd.func145.trans (congrArg some (by kernel_rfl))
  t3 := Tryd.underlying3
  a3 := Tryd.isAgg3
  z3 := Tryd.sizeOf3
  v3 := Tryd.zeroValue3
  t46 := Tryd.underlying158
  a46 := Tryd.isAgg158
  z46 := Tryd.sizeOf158
  v46 := Tryd.zeroValue158 }
open Go.Lib in
/-- internal/strconv.log10Pow2: "log10Pow2(x) returns ⌊log₁₀ 2**x⌋ = ⌊x * log₁₀ 2⌋.": '(x * 78913) >> 18', at an x up to 64 (a length in bits). The world is as it was. (LAID: no walk: one application.) -/
theorem Tryd.internal_strconv_log10Pow2 (x : Nat) (h : x ≤ 64) (w : World) :
    Calls Tryd.prog 145 #[.int .i64 x] w fun e w' => e = .returned (.int .i64 (Lib.l10 x)) ∧ w' = w := Any.internal_strconv_log10Pow2 Tryd.lays317 x h w
def Tryd.lays318_ren : Go.Shelf.Ren := ⟨fun | 318 => 147 | n => n, fun | 3 => 3 | 4 => 4 | n => n, fun | n => n⟩
theorem Tryd.lays318 : Go.Proofs.Lays.n318 Tryd.prog Tryd.lays318_ren := {
  mixed := by kernel_rfl
  f318 := Tryd.func147.trans (congrArg some (by kernel_rfl))
  t3 := Tryd.underlying3
  a3 := Tryd.isAgg3
  z3 := Tryd.sizeOf3
  v3 := Tryd.zeroValue3
  t4 := Tryd.underlying4
  a4 := Tryd.isAgg4
  z4 := Tryd.sizeOf4
  v4 := Tryd.zeroValue4 }
open Go.Lib in
/-- internal/strconv.bool2: "bool2 converts b to an integer: 1 for true, 0 for false." The world is as it was. (LAID: no walk: one application.) -/
theorem Tryd.internal_strconv_bool2_int (b : Bool) (w : World) :
    Calls Tryd.prog 147 #[.bool b] w fun e w' => e = .returned (.int .i64 (if b then 1 else 0)) ∧ w' = w := Any.internal_strconv_bool2_int Tryd.lays318 b w
def Tryd.lays283_ren : Go.Shelf.Ren := ⟨fun | 283 => 136 | n => n, fun | 3 => 3 | 9 => 9 | 4 => 4 | n => n, fun | n => n⟩
theorem Tryd.lays283 : Go.Proofs.Lays.n283 Tryd.prog Tryd.lays283_ren := {
  mixed := by kernel_rfl
  f283 := Tryd.func136.trans (congrArg some (by kernel_rfl))
  t3 := Tryd.underlying3
  a3 := Tryd.isAgg3
  z3 := Tryd.sizeOf3
  v3 := Tryd.zeroValue3
  t4 := Tryd.underlying4
  a4 := Tryd.isAgg4
  z4 := Tryd.sizeOf4
  v4 := Tryd.zeroValue4
  t9 := Tryd.underlying9
  a9 := Tryd.isAgg9
  z9 := Tryd.sizeOf9
  v9 := Tryd.zeroValue9 }
open Go.Lib in
/-- internal/strconv.small: "small returns the string for an i with 0 <= i < nSmalls.": i's decimal numeral. The world is as it was. (LAID: no walk: one application.) -/
theorem Tryd.internal_strconv_small (i : Nat) (h : i < 100) (w : World) :
    Calls Tryd.prog 136 #[.int .i64 i] w fun e w' => e = .returned (.string ⟨(Lib.decDigits i).toArray⟩) ∧ w' = w := Any.internal_strconv_small Tryd.lays283 i h w
def Tryd.laysM284_ren : Go.Shelf.Ren := ⟨fun | 284 => 137 | 129 => 146 | 317 => 145 | 318 => 147 | n => n, fun | 53 => 148 | 3 => 3 | 212 => 155 | 0 => 0 | 4 => 4 | 46 => 158 | 5 => 5 | 9 => 9 | n => n, fun | 17 => 0 | n => n⟩
theorem Tryd.laysM284 : Go.Proofs.LaysM.n284 Tryd.prog Tryd.laysM284_ren := {
  mixed := by kernel_rfl
  f129 := Tryd.func146.trans (congrArg some (by kernel_rfl))
  f284 := Tryd.func137.trans (congrArg some (by kernel_rfl))
  f317 := Tryd.func145.trans (congrArg some (by kernel_rfl))
  f318 := Tryd.func147.trans (congrArg some (by kernel_rfl))
  t0 := Tryd.underlying0
  a0 := Tryd.isAgg0
  z0 := Tryd.sizeOf0
  v0 := Tryd.zeroValue0
  t3 := Tryd.underlying3
  a3 := Tryd.isAgg3
  z3 := Tryd.sizeOf3
  v3 := Tryd.zeroValue3
  t4 := Tryd.underlying4
  a4 := Tryd.isAgg4
  z4 := Tryd.sizeOf4
  v4 := Tryd.zeroValue4
  t5 := Tryd.underlying5
  a5 := Tryd.isAgg5
  z5 := Tryd.sizeOf5
  v5 := Tryd.zeroValue5
  t9 := Tryd.underlying9
  a9 := Tryd.isAgg9
  z9 := Tryd.sizeOf9
  v9 := Tryd.zeroValue9
  t46 := Tryd.underlying158
  a46 := Tryd.isAgg158
  z46 := Tryd.sizeOf158
  v46 := Tryd.zeroValue158
  t53 := Tryd.underlying148
  a53 := Tryd.isAgg148
  z53 := Tryd.sizeOf148
  v53 := Tryd.zeroValue148
  t212 := Tryd.underlying155
  a212 := Tryd.isAgg155
  z212 := Tryd.sizeOf155
  v212 := Tryd.zeroValue155
  g17 := by kernel_rfl
  i0 := by kernel_rfl
  i3 := by kernel_rfl
  i4 := by kernel_rfl
  i5 := by kernel_rfl
  i9 := by kernel_rfl
  i46 := by kernel_rfl
  i53 := by kernel_rfl
  i212 := by kernel_rfl
  m17 := by kernel_rfl }
open Go.Lib in
/-- internal/strconv.numDigits, at a d that is not 0: THE NUMBER OF d's DECIMAL DIGITS. The world is as it was. (LAID: no walk: one application.) -/
theorem Tryd.internal_strconv_numDigits (u : Nat) (h1 : 1 ≤ u) (h2 : u < 18446744073709551616) (w : World) (htab : Lib.TabIs Tryd.prog w "internal/strconv.uint64pow10" .u64 Lib.pow10Tab) :
    Calls Tryd.prog 137 #[.int .u64 u] w fun e w' => e = .returned (.int .i64 (Lib.nDigits u)) ∧ w' = w := Any.internal_strconv_numDigits Tryd.laysM284 u h1 h2 w htab
def Tryd.lays285_ren : Go.Shelf.Ren := ⟨fun | 285 => 138 | n => n, fun | 37 => 127 | 53 => 148 | 3 => 3 | 4 => 4 | 51 => 156 | 9 => 9 | 5 => 5 | 0 => 0 | n => n, fun | n => n⟩
theorem Tryd.lays285 : Go.Proofs.Lays.n285 Tryd.prog Tryd.lays285_ren := {
  mixed := by kernel_rfl
  f285 := Tryd.func138.trans (congrArg some (by kernel_rfl))
  t0 := Tryd.underlying0
  a0 := Tryd.isAgg0
  z0 := Tryd.sizeOf0
  v0 := Tryd.zeroValue0
  t3 := Tryd.underlying3
  a3 := Tryd.isAgg3
  z3 := Tryd.sizeOf3
  v3 := Tryd.zeroValue3
  t4 := Tryd.underlying4
  a4 := Tryd.isAgg4
  z4 := Tryd.sizeOf4
  v4 := Tryd.zeroValue4
  t5 := Tryd.underlying5
  a5 := Tryd.isAgg5
  z5 := Tryd.sizeOf5
  v5 := Tryd.zeroValue5
  t9 := Tryd.underlying9
  a9 := Tryd.isAgg9
  z9 := Tryd.sizeOf9
  v9 := Tryd.zeroValue9
  t37 := Tryd.underlying127
  a37 := Tryd.isAgg127
  z37 := Tryd.sizeOf127
  v37 := Tryd.zeroValue127
  t51 := Tryd.underlying156
  a51 := Tryd.isAgg156
  z51 := Tryd.sizeOf156
  v51 := Tryd.zeroValue156
  t53 := Tryd.underlying148
  a53 := Tryd.isAgg148
  z53 := Tryd.sizeOf148
  v53 := Tryd.zeroValue148 }
open Go.RowKit Go.Sort Go.Lib in
/-- internal/strconv.formatBase10: "formatBase10 formats the decimal representation of u into a. The caller is responsible for ensuring that a is big enough to hold u. If a is too big, leading zeros will be filled in as needed.": THE ROW HOLDS u's DIGITS ('FmtInv .. 0 ..': every place t holds 'dg u (len - 1 - t)'); all else is as it was but for the count of draws. (LAID: no walk: one application.) -/
theorem Tryd.internal_strconv_formatBase10 (blk off cap : Nat) (u : Nat) (d : Array UInt8) (w : World) (hH : Holds (fun (b : UInt8) => Value.int .u8 (b.toNat : Int)) w blk off d) (hu : u < 10 ^ d.size) (hu64 : u < 18446744073709551616) (hsz : d.size < 4611686018427387904) :
    Calls Tryd.prog 138 #[.slice (some ⟨blk, off, none⟩) d.size cap, .int .u64 u] w fun e w' =>
      e = .returned (.tuple #[]) ∧ ∃ (n v' : Nat) (dk : Array UInt8), w' = (putRow (fun (b : UInt8) => Value.int .u8 (b.toNat : Int)) w blk off dk).drewN n ∧ FmtInv d.size u 0 v' dk := Any.internal_strconv_formatBase10 Tryd.lays285 blk off cap u d w hH hu hu64 hsz
def Tryd.laysM246_ren : Go.Shelf.Ren := ⟨fun | 246 => 124 | 283 => 136 | 284 => 137 | 285 => 138 | 286 => 139 | 129 => 146 | 317 => 145 | 318 => 147 | 319 => 148 | 320 => 149 | 337 => 151 | 338 => 152 | n => n, fun | 2 => 2 | 3 => 3 | 9 => 9 | 4 => 4 | 171 => 147 | 0 => 0 | 53 => 148 | 37 => 127 | 5 => 5 | 173 => 151 | 212 => 155 | 51 => 156 | 20 => 20 | 213 => 157 | 46 => 158 | 232 => 164 | 233 => 165 | n => n, fun | 17 => 0 | 18 => 1 | 19 => 2 | n => n⟩
theorem Tryd.laysM246 : Go.Proofs.LaysM.n246 Tryd.prog Tryd.laysM246_ren := {
  mixed := by kernel_rfl
  f129 := Tryd.func146.trans (congrArg some (by kernel_rfl))
  f246 := Tryd.func124.trans (congrArg some (by kernel_rfl))
  f283 := Tryd.func136.trans (congrArg some (by kernel_rfl))
  f284 := Tryd.func137.trans (congrArg some (by kernel_rfl))
  f285 := Tryd.func138.trans (congrArg some (by kernel_rfl))
  f286 := Tryd.func139.trans (congrArg some (by kernel_rfl))
  f317 := Tryd.func145.trans (congrArg some (by kernel_rfl))
  f318 := Tryd.func147.trans (congrArg some (by kernel_rfl))
  f319 := Tryd.func148.trans (congrArg some (by kernel_rfl))
  f320 := Tryd.func149.trans (congrArg some (by kernel_rfl))
  f337 := Tryd.func151.trans (congrArg some (by kernel_rfl))
  f338 := Tryd.func152.trans (congrArg some (by kernel_rfl))
  t0 := Tryd.underlying0
  a0 := Tryd.isAgg0
  z0 := Tryd.sizeOf0
  v0 := Tryd.zeroValue0
  t2 := Tryd.underlying2
  a2 := Tryd.isAgg2
  z2 := Tryd.sizeOf2
  v2 := Tryd.zeroValue2
  t3 := Tryd.underlying3
  a3 := Tryd.isAgg3
  z3 := Tryd.sizeOf3
  v3 := Tryd.zeroValue3
  t4 := Tryd.underlying4
  a4 := Tryd.isAgg4
  z4 := Tryd.sizeOf4
  v4 := Tryd.zeroValue4
  t5 := Tryd.underlying5
  a5 := Tryd.isAgg5
  z5 := Tryd.sizeOf5
  v5 := Tryd.zeroValue5
  t9 := Tryd.underlying9
  a9 := Tryd.isAgg9
  z9 := Tryd.sizeOf9
  v9 := Tryd.zeroValue9
  t20 := Tryd.underlying20
  a20 := Tryd.isAgg20
  z20 := Tryd.sizeOf20
  v20 := Tryd.zeroValue20
  t37 := Tryd.underlying127
  a37 := Tryd.isAgg127
  z37 := Tryd.sizeOf127
  v37 := Tryd.zeroValue127
  t46 := Tryd.underlying158
  a46 := Tryd.isAgg158
  z46 := Tryd.sizeOf158
  v46 := Tryd.zeroValue158
  t51 := Tryd.underlying156
  a51 := Tryd.isAgg156
  z51 := Tryd.sizeOf156
  v51 := Tryd.zeroValue156
  t53 := Tryd.underlying148
  a53 := Tryd.isAgg148
  z53 := Tryd.sizeOf148
  v53 := Tryd.zeroValue148
  t171 := Tryd.underlying147
  a171 := Tryd.isAgg147
  z171 := Tryd.sizeOf147
  v171 := Tryd.zeroValue147
  t173 := Tryd.underlying151
  a173 := Tryd.isAgg151
  z173 := Tryd.sizeOf151
  v173 := Tryd.zeroValue151
  t212 := Tryd.underlying155
  a212 := Tryd.isAgg155
  z212 := Tryd.sizeOf155
  v212 := Tryd.zeroValue155
  t213 := Tryd.underlying157
  a213 := Tryd.isAgg157
  z213 := Tryd.sizeOf157
  t232 := Tryd.underlying164
  a232 := Tryd.isAgg164
  z232 := Tryd.sizeOf164
  v232 := Tryd.zeroValue164
  t233 := Tryd.underlying165
  a233 := Tryd.isAgg165
  z233 := Tryd.sizeOf165
  v233 := Tryd.zeroValue165
  g17 := by kernel_rfl
  g18 := by kernel_rfl
  g19 := by kernel_rfl
  i0 := by kernel_rfl
  i2 := by kernel_rfl
  i3 := by kernel_rfl
  i4 := by kernel_rfl
  i5 := by kernel_rfl
  i9 := by kernel_rfl
  i20 := by kernel_rfl
  i37 := by kernel_rfl
  i46 := by kernel_rfl
  i51 := by kernel_rfl
  i53 := by kernel_rfl
  i171 := by kernel_rfl
  i173 := by kernel_rfl
  i212 := by kernel_rfl
  i232 := by kernel_rfl
  i233 := by kernel_rfl
  m17 := by kernel_rfl
  m18 := by kernel_rfl
  m19 := by kernel_rfl }
open Go.RowKit Go.Sort Go.Lib in
/-- internal/strconv.FormatInt: "FormatInt returns the string representation of i in the given base": AT BASE 10: i's decimal numeral, for every int64. The world behind the call: the world before it, new blocks behind the heap, draws. (LAID: no walk: one application.) -/
theorem Tryd.internal_strconv_FormatInt_10 (n : Int) (h0 : -9223372036854775808 ≤ n) (h1 : n ≤ 9223372036854775807) (w : World) (htab : Lib.TabIs Tryd.prog w "internal/strconv.uint64pow10" .u64 Lib.pow10Tab) :
    Calls Tryd.prog 124 #[.int .i64 n, .int .i64 10] w fun e w' => e = .returned (.string ⟨(Lib.itoa n).toArray⟩) ∧ ∃ k os, w' = grow (w.drewN k) os := Any.internal_strconv_FormatInt_10 Tryd.laysM246 n h0 h1 w htab
def Tryd.lays246_ren : Go.Shelf.Ren := ⟨fun | 246 => 124 | 283 => 136 | 284 => 137 | 285 => 138 | 286 => 139 | 129 => 146 | 317 => 145 | 318 => 147 | 319 => 148 | 320 => 149 | 337 => 151 | 338 => 152 | n => n, fun | 2 => 2 | 3 => 3 | 9 => 9 | 4 => 4 | 171 => 147 | 0 => 0 | 53 => 148 | 37 => 127 | 5 => 5 | 173 => 151 | 212 => 155 | 51 => 156 | 20 => 20 | 213 => 157 | 46 => 158 | 232 => 164 | 233 => 165 | n => n, fun | 17 => 0 | 18 => 1 | 19 => 2 | n => n⟩
theorem Tryd.lays246 : Go.Proofs.Lays.n246 Tryd.prog Tryd.lays246_ren := {
  mixed := by kernel_rfl
  f129 := Tryd.func146.trans (congrArg some (by kernel_rfl))
  f246 := Tryd.func124.trans (congrArg some (by kernel_rfl))
  f283 := Tryd.func136.trans (congrArg some (by kernel_rfl))
  f284 := Tryd.func137.trans (congrArg some (by kernel_rfl))
  f285 := Tryd.func138.trans (congrArg some (by kernel_rfl))
  f286 := Tryd.func139.trans (congrArg some (by kernel_rfl))
  f317 := Tryd.func145.trans (congrArg some (by kernel_rfl))
  f318 := Tryd.func147.trans (congrArg some (by kernel_rfl))
  f319 := Tryd.func148.trans (congrArg some (by kernel_rfl))
  f320 := Tryd.func149.trans (congrArg some (by kernel_rfl))
  f337 := Tryd.func151.trans (congrArg some (by kernel_rfl))
  f338 := Tryd.func152.trans (congrArg some (by kernel_rfl))
  t0 := Tryd.underlying0
  a0 := Tryd.isAgg0
  z0 := Tryd.sizeOf0
  v0 := Tryd.zeroValue0
  t2 := Tryd.underlying2
  a2 := Tryd.isAgg2
  z2 := Tryd.sizeOf2
  v2 := Tryd.zeroValue2
  t3 := Tryd.underlying3
  a3 := Tryd.isAgg3
  z3 := Tryd.sizeOf3
  v3 := Tryd.zeroValue3
  t4 := Tryd.underlying4
  a4 := Tryd.isAgg4
  z4 := Tryd.sizeOf4
  v4 := Tryd.zeroValue4
  t5 := Tryd.underlying5
  a5 := Tryd.isAgg5
  z5 := Tryd.sizeOf5
  v5 := Tryd.zeroValue5
  t9 := Tryd.underlying9
  a9 := Tryd.isAgg9
  z9 := Tryd.sizeOf9
  v9 := Tryd.zeroValue9
  t20 := Tryd.underlying20
  a20 := Tryd.isAgg20
  z20 := Tryd.sizeOf20
  v20 := Tryd.zeroValue20
  t37 := Tryd.underlying127
  a37 := Tryd.isAgg127
  z37 := Tryd.sizeOf127
  v37 := Tryd.zeroValue127
  t46 := Tryd.underlying158
  a46 := Tryd.isAgg158
  z46 := Tryd.sizeOf158
  v46 := Tryd.zeroValue158
  t51 := Tryd.underlying156
  a51 := Tryd.isAgg156
  z51 := Tryd.sizeOf156
  v51 := Tryd.zeroValue156
  t53 := Tryd.underlying148
  a53 := Tryd.isAgg148
  z53 := Tryd.sizeOf148
  v53 := Tryd.zeroValue148
  t171 := Tryd.underlying147
  a171 := Tryd.isAgg147
  z171 := Tryd.sizeOf147
  v171 := Tryd.zeroValue147
  t173 := Tryd.underlying151
  a173 := Tryd.isAgg151
  z173 := Tryd.sizeOf151
  v173 := Tryd.zeroValue151
  t212 := Tryd.underlying155
  a212 := Tryd.isAgg155
  z212 := Tryd.sizeOf155
  v212 := Tryd.zeroValue155
  t213 := Tryd.underlying157
  a213 := Tryd.isAgg157
  z213 := Tryd.sizeOf157
  t232 := Tryd.underlying164
  a232 := Tryd.isAgg164
  z232 := Tryd.sizeOf164
  v232 := Tryd.zeroValue164
  t233 := Tryd.underlying165
  a233 := Tryd.isAgg165
  z233 := Tryd.sizeOf165
  v233 := Tryd.zeroValue165
  g17 := by kernel_rfl
  g18 := by kernel_rfl
  g19 := by kernel_rfl }
open Go.RowKit Go.Sort Go.Lib in
/-- THE ROAD WITHOUT THE TABLE: 0 <= i < 100: two constants are read, nothing is laid: no premise on the world, and the world is as it was. (LAID: no walk: one application.) -/
theorem Tryd.internal_strconv_FormatInt_10_small (i : Nat) (hi : i < 100) (w : World) :
    Calls Tryd.prog 124 #[.int .i64 i, .int .i64 10] w fun e w' => e = .returned (.string ⟨(Lib.decDigits i).toArray⟩) ∧ w' = w := Any.internal_strconv_FormatInt_10_small Tryd.lays246 i hi w
def Tryd.laysM243_ren : Go.Shelf.Ren := ⟨fun | 243 => 105 | 246 => 124 | 283 => 136 | 284 => 137 | 285 => 138 | 286 => 139 | 129 => 146 | 317 => 145 | 318 => 147 | 319 => 148 | 320 => 149 | 337 => 151 | 338 => 152 | n => n, fun | 3 => 3 | 9 => 9 | 2 => 2 | 4 => 4 | 171 => 147 | 0 => 0 | 53 => 148 | 37 => 127 | 5 => 5 | 173 => 151 | 212 => 155 | 51 => 156 | 20 => 20 | 213 => 157 | 46 => 158 | 232 => 164 | 233 => 165 | n => n, fun | 17 => 0 | 18 => 1 | 19 => 2 | n => n⟩
theorem Tryd.laysM243 : Go.Proofs.LaysM.n243 Tryd.prog Tryd.laysM243_ren := {
  mixed := by kernel_rfl
  f129 := Tryd.func146.trans (congrArg some (by kernel_rfl))
  f243 := Tryd.func105.trans (congrArg some (by kernel_rfl))
  f246 := Tryd.func124.trans (congrArg some (by kernel_rfl))
  f283 := Tryd.func136.trans (congrArg some (by kernel_rfl))
  f284 := Tryd.func137.trans (congrArg some (by kernel_rfl))
  f285 := Tryd.func138.trans (congrArg some (by kernel_rfl))
  f286 := Tryd.func139.trans (congrArg some (by kernel_rfl))
  f317 := Tryd.func145.trans (congrArg some (by kernel_rfl))
  f318 := Tryd.func147.trans (congrArg some (by kernel_rfl))
  f319 := Tryd.func148.trans (congrArg some (by kernel_rfl))
  f320 := Tryd.func149.trans (congrArg some (by kernel_rfl))
  f337 := Tryd.func151.trans (congrArg some (by kernel_rfl))
  f338 := Tryd.func152.trans (congrArg some (by kernel_rfl))
  t0 := Tryd.underlying0
  a0 := Tryd.isAgg0
  z0 := Tryd.sizeOf0
  v0 := Tryd.zeroValue0
  t2 := Tryd.underlying2
  a2 := Tryd.isAgg2
  z2 := Tryd.sizeOf2
  v2 := Tryd.zeroValue2
  t3 := Tryd.underlying3
  a3 := Tryd.isAgg3
  z3 := Tryd.sizeOf3
  v3 := Tryd.zeroValue3
  t4 := Tryd.underlying4
  a4 := Tryd.isAgg4
  z4 := Tryd.sizeOf4
  v4 := Tryd.zeroValue4
  t5 := Tryd.underlying5
  a5 := Tryd.isAgg5
  z5 := Tryd.sizeOf5
  v5 := Tryd.zeroValue5
  t9 := Tryd.underlying9
  a9 := Tryd.isAgg9
  z9 := Tryd.sizeOf9
  v9 := Tryd.zeroValue9
  t20 := Tryd.underlying20
  a20 := Tryd.isAgg20
  z20 := Tryd.sizeOf20
  v20 := Tryd.zeroValue20
  t37 := Tryd.underlying127
  a37 := Tryd.isAgg127
  z37 := Tryd.sizeOf127
  v37 := Tryd.zeroValue127
  t46 := Tryd.underlying158
  a46 := Tryd.isAgg158
  z46 := Tryd.sizeOf158
  v46 := Tryd.zeroValue158
  t51 := Tryd.underlying156
  a51 := Tryd.isAgg156
  z51 := Tryd.sizeOf156
  v51 := Tryd.zeroValue156
  t53 := Tryd.underlying148
  a53 := Tryd.isAgg148
  z53 := Tryd.sizeOf148
  v53 := Tryd.zeroValue148
  t171 := Tryd.underlying147
  a171 := Tryd.isAgg147
  z171 := Tryd.sizeOf147
  v171 := Tryd.zeroValue147
  t173 := Tryd.underlying151
  a173 := Tryd.isAgg151
  z173 := Tryd.sizeOf151
  v173 := Tryd.zeroValue151
  t212 := Tryd.underlying155
  a212 := Tryd.isAgg155
  z212 := Tryd.sizeOf155
  v212 := Tryd.zeroValue155
  t213 := Tryd.underlying157
  a213 := Tryd.isAgg157
  z213 := Tryd.sizeOf157
  t232 := Tryd.underlying164
  a232 := Tryd.isAgg164
  z232 := Tryd.sizeOf164
  v232 := Tryd.zeroValue164
  t233 := Tryd.underlying165
  a233 := Tryd.isAgg165
  z233 := Tryd.sizeOf165
  v233 := Tryd.zeroValue165
  g17 := by kernel_rfl
  g18 := by kernel_rfl
  g19 := by kernel_rfl
  i0 := by kernel_rfl
  i2 := by kernel_rfl
  i3 := by kernel_rfl
  i4 := by kernel_rfl
  i5 := by kernel_rfl
  i9 := by kernel_rfl
  i20 := by kernel_rfl
  i37 := by kernel_rfl
  i46 := by kernel_rfl
  i51 := by kernel_rfl
  i53 := by kernel_rfl
  i171 := by kernel_rfl
  i173 := by kernel_rfl
  i212 := by kernel_rfl
  i232 := by kernel_rfl
  i233 := by kernel_rfl
  m17 := by kernel_rfl
  m18 := by kernel_rfl
  m19 := by kernel_rfl }
open Go.RowKit Go.Sort Go.Lib in
/-- internal/strconv.Itoa: "Itoa is equivalent to FormatInt(int64(i), 10).": i's decimal numeral, for every int. (LAID: no walk: one application.) -/
theorem Tryd.internal_strconv_Itoa (n : Int) (h0 : -9223372036854775808 ≤ n) (h1 : n ≤ 9223372036854775807) (w : World) (htab : Lib.TabIs Tryd.prog w "internal/strconv.uint64pow10" .u64 Lib.pow10Tab) :
    Calls Tryd.prog 105 #[.int .i64 n] w fun e w' => e = .returned (.string ⟨(Lib.itoa n).toArray⟩) ∧ ∃ k os, w' = grow (w.drewN k) os := Any.internal_strconv_Itoa Tryd.laysM243 n h0 h1 w htab
def Tryd.lays243_ren : Go.Shelf.Ren := ⟨fun | 243 => 105 | 246 => 124 | 283 => 136 | 284 => 137 | 285 => 138 | 286 => 139 | 129 => 146 | 317 => 145 | 318 => 147 | 319 => 148 | 320 => 149 | 337 => 151 | 338 => 152 | n => n, fun | 3 => 3 | 9 => 9 | 2 => 2 | 4 => 4 | 171 => 147 | 0 => 0 | 53 => 148 | 37 => 127 | 5 => 5 | 173 => 151 | 212 => 155 | 51 => 156 | 20 => 20 | 213 => 157 | 46 => 158 | 232 => 164 | 233 => 165 | n => n, fun | 17 => 0 | 18 => 1 | 19 => 2 | n => n⟩
theorem Tryd.lays243 : Go.Proofs.Lays.n243 Tryd.prog Tryd.lays243_ren := {
  mixed := by kernel_rfl
  f129 := Tryd.func146.trans (congrArg some (by kernel_rfl))
  f243 := Tryd.func105.trans (congrArg some (by kernel_rfl))
  f246 := Tryd.func124.trans (congrArg some (by kernel_rfl))
  f283 := Tryd.func136.trans (congrArg some (by kernel_rfl))
  f284 := Tryd.func137.trans (congrArg some (by kernel_rfl))
  f285 := Tryd.func138.trans (congrArg some (by kernel_rfl))
  f286 := Tryd.func139.trans (congrArg some (by kernel_rfl))
  f317 := Tryd.func145.trans (congrArg some (by kernel_rfl))
  f318 := Tryd.func147.trans (congrArg some (by kernel_rfl))
  f319 := Tryd.func148.trans (congrArg some (by kernel_rfl))
  f320 := Tryd.func149.trans (congrArg some (by kernel_rfl))
  f337 := Tryd.func151.trans (congrArg some (by kernel_rfl))
  f338 := Tryd.func152.trans (congrArg some (by kernel_rfl))
  t0 := Tryd.underlying0
  a0 := Tryd.isAgg0
  z0 := Tryd.sizeOf0
  v0 := Tryd.zeroValue0
  t2 := Tryd.underlying2
  a2 := Tryd.isAgg2
  z2 := Tryd.sizeOf2
  v2 := Tryd.zeroValue2
  t3 := Tryd.underlying3
  a3 := Tryd.isAgg3
  z3 := Tryd.sizeOf3
  v3 := Tryd.zeroValue3
  t4 := Tryd.underlying4
  a4 := Tryd.isAgg4
  z4 := Tryd.sizeOf4
  v4 := Tryd.zeroValue4
  t5 := Tryd.underlying5
  a5 := Tryd.isAgg5
  z5 := Tryd.sizeOf5
  v5 := Tryd.zeroValue5
  t9 := Tryd.underlying9
  a9 := Tryd.isAgg9
  z9 := Tryd.sizeOf9
  v9 := Tryd.zeroValue9
  t20 := Tryd.underlying20
  a20 := Tryd.isAgg20
  z20 := Tryd.sizeOf20
  v20 := Tryd.zeroValue20
  t37 := Tryd.underlying127
  a37 := Tryd.isAgg127
  z37 := Tryd.sizeOf127
  v37 := Tryd.zeroValue127
  t46 := Tryd.underlying158
  a46 := Tryd.isAgg158
  z46 := Tryd.sizeOf158
  v46 := Tryd.zeroValue158
  t51 := Tryd.underlying156
  a51 := Tryd.isAgg156
  z51 := Tryd.sizeOf156
  v51 := Tryd.zeroValue156
  t53 := Tryd.underlying148
  a53 := Tryd.isAgg148
  z53 := Tryd.sizeOf148
  v53 := Tryd.zeroValue148
  t171 := Tryd.underlying147
  a171 := Tryd.isAgg147
  z171 := Tryd.sizeOf147
  v171 := Tryd.zeroValue147
  t173 := Tryd.underlying151
  a173 := Tryd.isAgg151
  z173 := Tryd.sizeOf151
  v173 := Tryd.zeroValue151
  t212 := Tryd.underlying155
  a212 := Tryd.isAgg155
  z212 := Tryd.sizeOf155
  v212 := Tryd.zeroValue155
  t213 := Tryd.underlying157
  a213 := Tryd.isAgg157
  z213 := Tryd.sizeOf157
  t232 := Tryd.underlying164
  a232 := Tryd.isAgg164
  z232 := Tryd.sizeOf164
  v232 := Tryd.zeroValue164
  t233 := Tryd.underlying165
  a233 := Tryd.isAgg165
  z233 := Tryd.sizeOf165
  v233 := Tryd.zeroValue165
  g17 := by kernel_rfl
  g18 := by kernel_rfl
  g19 := by kernel_rfl }
open Go.RowKit Go.Sort Go.Lib in
/-- THE ROAD WITHOUT THE TABLE: 0 <= i < 100. (LAID: no walk: one application.) -/
theorem Tryd.internal_strconv_Itoa_small (i : Nat) (hi : i < 100) (w : World) :
    Calls Tryd.prog 105 #[.int .i64 i] w fun e w' => e = .returned (.string ⟨(Lib.decDigits i).toArray⟩) ∧ w' = w := Any.internal_strconv_Itoa_small Tryd.lays243 i hi w
def Tryd.laysM171_ren : Go.Shelf.Ren := ⟨fun | 171 => 79 | 243 => 105 | 246 => 124 | 283 => 136 | 284 => 137 | 285 => 138 | 286 => 139 | 129 => 146 | 317 => 145 | 318 => 147 | 319 => 148 | 320 => 149 | 337 => 151 | 338 => 152 | n => n, fun | 3 => 3 | 9 => 9 | 2 => 2 | 4 => 4 | 171 => 147 | 0 => 0 | 53 => 148 | 37 => 127 | 5 => 5 | 173 => 151 | 212 => 155 | 51 => 156 | 20 => 20 | 213 => 157 | 46 => 158 | 232 => 164 | 233 => 165 | n => n, fun | 17 => 0 | 18 => 1 | 19 => 2 | n => n⟩
theorem Tryd.laysM171 : Go.Proofs.LaysM.n171 Tryd.prog Tryd.laysM171_ren := {
  mixed := by kernel_rfl
  f129 := Tryd.func146.trans (congrArg some (by kernel_rfl))
  f171 := Tryd.func79.trans (congrArg some (by kernel_rfl))
  f243 := Tryd.func105.trans (congrArg some (by kernel_rfl))
  f246 := Tryd.func124.trans (congrArg some (by kernel_rfl))
  f283 := Tryd.func136.trans (congrArg some (by kernel_rfl))
  f284 := Tryd.func137.trans (congrArg some (by kernel_rfl))
  f285 := Tryd.func138.trans (congrArg some (by kernel_rfl))
  f286 := Tryd.func139.trans (congrArg some (by kernel_rfl))
  f317 := Tryd.func145.trans (congrArg some (by kernel_rfl))
  f318 := Tryd.func147.trans (congrArg some (by kernel_rfl))
  f319 := Tryd.func148.trans (congrArg some (by kernel_rfl))
  f320 := Tryd.func149.trans (congrArg some (by kernel_rfl))
  f337 := Tryd.func151.trans (congrArg some (by kernel_rfl))
  f338 := Tryd.func152.trans (congrArg some (by kernel_rfl))
  t0 := Tryd.underlying0
  a0 := Tryd.isAgg0
  z0 := Tryd.sizeOf0
  v0 := Tryd.zeroValue0
  t2 := Tryd.underlying2
  a2 := Tryd.isAgg2
  z2 := Tryd.sizeOf2
  v2 := Tryd.zeroValue2
  t3 := Tryd.underlying3
  a3 := Tryd.isAgg3
  z3 := Tryd.sizeOf3
  v3 := Tryd.zeroValue3
  t4 := Tryd.underlying4
  a4 := Tryd.isAgg4
  z4 := Tryd.sizeOf4
  v4 := Tryd.zeroValue4
  t5 := Tryd.underlying5
  a5 := Tryd.isAgg5
  z5 := Tryd.sizeOf5
  v5 := Tryd.zeroValue5
  t9 := Tryd.underlying9
  a9 := Tryd.isAgg9
  z9 := Tryd.sizeOf9
  v9 := Tryd.zeroValue9
  t20 := Tryd.underlying20
  a20 := Tryd.isAgg20
  z20 := Tryd.sizeOf20
  v20 := Tryd.zeroValue20
  t37 := Tryd.underlying127
  a37 := Tryd.isAgg127
  z37 := Tryd.sizeOf127
  v37 := Tryd.zeroValue127
  t46 := Tryd.underlying158
  a46 := Tryd.isAgg158
  z46 := Tryd.sizeOf158
  v46 := Tryd.zeroValue158
  t51 := Tryd.underlying156
  a51 := Tryd.isAgg156
  z51 := Tryd.sizeOf156
  v51 := Tryd.zeroValue156
  t53 := Tryd.underlying148
  a53 := Tryd.isAgg148
  z53 := Tryd.sizeOf148
  v53 := Tryd.zeroValue148
  t171 := Tryd.underlying147
  a171 := Tryd.isAgg147
  z171 := Tryd.sizeOf147
  v171 := Tryd.zeroValue147
  t173 := Tryd.underlying151
  a173 := Tryd.isAgg151
  z173 := Tryd.sizeOf151
  v173 := Tryd.zeroValue151
  t212 := Tryd.underlying155
  a212 := Tryd.isAgg155
  z212 := Tryd.sizeOf155
  v212 := Tryd.zeroValue155
  t213 := Tryd.underlying157
  a213 := Tryd.isAgg157
  z213 := Tryd.sizeOf157
  t232 := Tryd.underlying164
  a232 := Tryd.isAgg164
  z232 := Tryd.sizeOf164
  v232 := Tryd.zeroValue164
  t233 := Tryd.underlying165
  a233 := Tryd.isAgg165
  z233 := Tryd.sizeOf165
  v233 := Tryd.zeroValue165
  g17 := by kernel_rfl
  g18 := by kernel_rfl
  g19 := by kernel_rfl
  i0 := by kernel_rfl
  i2 := by kernel_rfl
  i3 := by kernel_rfl
  i4 := by kernel_rfl
  i5 := by kernel_rfl
  i9 := by kernel_rfl
  i20 := by kernel_rfl
  i37 := by kernel_rfl
  i46 := by kernel_rfl
  i51 := by kernel_rfl
  i53 := by kernel_rfl
  i171 := by kernel_rfl
  i173 := by kernel_rfl
  i212 := by kernel_rfl
  i232 := by kernel_rfl
  i233 := by kernel_rfl
  m17 := by kernel_rfl
  m18 := by kernel_rfl
  m19 := by kernel_rfl }
open Go.RowKit Go.Sort Go.Lib in
/-- strconv.Itoa: "Itoa is equivalent to FormatInt(int64(i), 10).": i's DECIMAL NUMERAL ('Lib.itoa': a '-' where i is negative, then the digits), FOR EVERY int. The world behind the call: the world before it, new blocks behind the heap (the library's 'var a [24]byte'), draws. (LAID: no walk: one application.) -/
theorem Tryd.strconv_Itoa (n : Int) (h0 : -9223372036854775808 ≤ n) (h1 : n ≤ 9223372036854775807) (w : World) (htab : Lib.TabIs Tryd.prog w "internal/strconv.uint64pow10" .u64 Lib.pow10Tab) :
    Calls Tryd.prog 79 #[.int .i64 n] w fun e w' => e = .returned (.string ⟨(Lib.itoa n).toArray⟩) ∧ ∃ k os, w' = grow (w.drewN k) os := Any.strconv_Itoa Tryd.laysM171 n h0 h1 w htab
def Tryd.lays171_ren : Go.Shelf.Ren := ⟨fun | 171 => 79 | 243 => 105 | 246 => 124 | 283 => 136 | 284 => 137 | 285 => 138 | 286 => 139 | 129 => 146 | 317 => 145 | 318 => 147 | 319 => 148 | 320 => 149 | 337 => 151 | 338 => 152 | n => n, fun | 3 => 3 | 9 => 9 | 2 => 2 | 4 => 4 | 171 => 147 | 0 => 0 | 53 => 148 | 37 => 127 | 5 => 5 | 173 => 151 | 212 => 155 | 51 => 156 | 20 => 20 | 213 => 157 | 46 => 158 | 232 => 164 | 233 => 165 | n => n, fun | 17 => 0 | 18 => 1 | 19 => 2 | n => n⟩
theorem Tryd.lays171 : Go.Proofs.Lays.n171 Tryd.prog Tryd.lays171_ren := {
  mixed := by kernel_rfl
  f129 := Tryd.func146.trans (congrArg some (by kernel_rfl))
  f171 := Tryd.func79.trans (congrArg some (by kernel_rfl))
  f243 := Tryd.func105.trans (congrArg some (by kernel_rfl))
  f246 := Tryd.func124.trans (congrArg some (by kernel_rfl))
  f283 := Tryd.func136.trans (congrArg some (by kernel_rfl))
  f284 := Tryd.func137.trans (congrArg some (by kernel_rfl))
  f285 := Tryd.func138.trans (congrArg some (by kernel_rfl))
  f286 := Tryd.func139.trans (congrArg some (by kernel_rfl))
  f317 := Tryd.func145.trans (congrArg some (by kernel_rfl))
  f318 := Tryd.func147.trans (congrArg some (by kernel_rfl))
  f319 := Tryd.func148.trans (congrArg some (by kernel_rfl))
  f320 := Tryd.func149.trans (congrArg some (by kernel_rfl))
  f337 := Tryd.func151.trans (congrArg some (by kernel_rfl))
  f338 := Tryd.func152.trans (congrArg some (by kernel_rfl))
  t0 := Tryd.underlying0
  a0 := Tryd.isAgg0
  z0 := Tryd.sizeOf0
  v0 := Tryd.zeroValue0
  t2 := Tryd.underlying2
  a2 := Tryd.isAgg2
  z2 := Tryd.sizeOf2
  v2 := Tryd.zeroValue2
  t3 := Tryd.underlying3
  a3 := Tryd.isAgg3
  z3 := Tryd.sizeOf3
  v3 := Tryd.zeroValue3
  t4 := Tryd.underlying4
  a4 := Tryd.isAgg4
  z4 := Tryd.sizeOf4
  v4 := Tryd.zeroValue4
  t5 := Tryd.underlying5
  a5 := Tryd.isAgg5
  z5 := Tryd.sizeOf5
  v5 := Tryd.zeroValue5
  t9 := Tryd.underlying9
  a9 := Tryd.isAgg9
  z9 := Tryd.sizeOf9
  v9 := Tryd.zeroValue9
  t20 := Tryd.underlying20
  a20 := Tryd.isAgg20
  z20 := Tryd.sizeOf20
  v20 := Tryd.zeroValue20
  t37 := Tryd.underlying127
  a37 := Tryd.isAgg127
  z37 := Tryd.sizeOf127
  v37 := Tryd.zeroValue127
  t46 := Tryd.underlying158
  a46 := Tryd.isAgg158
  z46 := Tryd.sizeOf158
  v46 := Tryd.zeroValue158
  t51 := Tryd.underlying156
  a51 := Tryd.isAgg156
  z51 := Tryd.sizeOf156
  v51 := Tryd.zeroValue156
  t53 := Tryd.underlying148
  a53 := Tryd.isAgg148
  z53 := Tryd.sizeOf148
  v53 := Tryd.zeroValue148
  t171 := Tryd.underlying147
  a171 := Tryd.isAgg147
  z171 := Tryd.sizeOf147
  v171 := Tryd.zeroValue147
  t173 := Tryd.underlying151
  a173 := Tryd.isAgg151
  z173 := Tryd.sizeOf151
  v173 := Tryd.zeroValue151
  t212 := Tryd.underlying155
  a212 := Tryd.isAgg155
  z212 := Tryd.sizeOf155
  v212 := Tryd.zeroValue155
  t213 := Tryd.underlying157
  a213 := Tryd.isAgg157
  z213 := Tryd.sizeOf157
  t232 := Tryd.underlying164
  a232 := Tryd.isAgg164
  z232 := Tryd.sizeOf164
  v232 := Tryd.zeroValue164
  t233 := Tryd.underlying165
  a233 := Tryd.isAgg165
  z233 := Tryd.sizeOf165
  v233 := Tryd.zeroValue165
  g17 := by kernel_rfl
  g18 := by kernel_rfl
  g19 := by kernel_rfl }
open Go.RowKit Go.Sort Go.Lib in
/-- THE ROAD WITHOUT THE TABLE: 0 <= i < 100: NO PREMISE ON THE WORLD, AND THE WORLD IS AS IT WAS: a row that keeps its argument in that range need list no table ('laid = []'). (LAID: no walk: one application.) -/
theorem Tryd.strconv_Itoa_small (i : Nat) (hi : i < 100) (w : World) :
    Calls Tryd.prog 79 #[.int .i64 i] w fun e w' => e = .returned (.string ⟨(Lib.decDigits i).toArray⟩) ∧ w' = w := Any.strconv_Itoa_small Tryd.lays171 i hi w
def Tryd.lays217_ren : Go.Shelf.Ren := ⟨fun | 217 => 161 | 266 => 165 | n => n, fun | 9 => 9 | 5 => 5 | 3 => 3 | n => n, fun | n => n⟩
theorem Tryd.lays217 : Go.Proofs.Lays.n217 Tryd.prog Tryd.lays217_ren := {
  mixed := by kernel_rfl
  f217 := Tryd.func161.trans (congrArg some (by kernel_rfl))
  f266 := Tryd.func165.trans (congrArg some (by kernel_rfl))
  t3 := Tryd.underlying3
  a3 := Tryd.isAgg3
  z3 := Tryd.sizeOf3
  v3 := Tryd.zeroValue3
  t5 := Tryd.underlying5
  a5 := Tryd.isAgg5
  z5 := Tryd.sizeOf5
  v5 := Tryd.zeroValue5
  t9 := Tryd.underlying9
  a9 := Tryd.isAgg9
  z9 := Tryd.sizeOf9
  v9 := Tryd.zeroValue9 }
open Go.RowKit Go.Lib in
/-- internal/stringslite.IndexByte (what strings.IndexByte calls): IT RETURNS 'Lib.indexByte s c'; the world is as it was. (LAID: no walk: one application.) -/
theorem Tryd.stringslite_IndexByte (s : ByteArray) (c : Int) (w : World) :
    Calls Tryd.prog 161 #[.string s, .int .u8 c] w fun e w' => e = .returned (.int .i64 (Lib.indexByte s.data.toList c.toNat.toUInt8)) ∧ w' = w := Any.stringslite_IndexByte Tryd.lays217 s c w
def Tryd.lays224_ren : Go.Shelf.Ren := ⟨fun | 224 => 163 | n => n, fun | 3 => 3 | n => n, fun | n => n⟩
theorem Tryd.lays224 : Go.Proofs.Lays.n224 Tryd.prog Tryd.lays224_ren := {
  mixed := by kernel_rfl
  f224 := Tryd.func163.trans (congrArg some (by kernel_rfl))
  t3 := Tryd.underlying3
  a3 := Tryd.isAgg3
  z3 := Tryd.sizeOf3
  v3 := Tryd.zeroValue3 }
open Go.RowKit Go.Lib in
/-- internal/bytealg.Cutover: "Cutover reports the number of failures of IndexByte we should tolerate before switching over to Index. n is the number of bytes processed so far.": on amd64: (n + 16) / 8. (LAID: no walk: one application.) -/
theorem Tryd.bytealg_Cutover (n : Int) (h0 : 0 ≤ n) (h1 : n < 4611686018427387904) (w : World) :
    Calls Tryd.prog 163 #[.int .i64 n] w fun e w' => e = .returned (.int .i64 ((n + 16) / 8)) ∧ w' = w := Any.bytealg_Cutover Tryd.lays224 n h0 h1 w
def Tryd.lays314_ren : Go.Shelf.Ren := ⟨fun | 314 => 166 | n => n, fun | 9 => 9 | 51 => 156 | 3 => 3 | 4 => 4 | 5 => 5 | 46 => 158 | n => n, fun | n => n⟩
theorem Tryd.lays314 : Go.Proofs.Lays.n314 Tryd.prog Tryd.lays314_ren := {
  mixed := by kernel_rfl
  f314 := Tryd.func166.trans (congrArg some (by kernel_rfl))
  t3 := Tryd.underlying3
  a3 := Tryd.isAgg3
  z3 := Tryd.sizeOf3
  v3 := Tryd.zeroValue3
  t4 := Tryd.underlying4
  a4 := Tryd.isAgg4
  z4 := Tryd.sizeOf4
  v4 := Tryd.zeroValue4
  t5 := Tryd.underlying5
  a5 := Tryd.isAgg5
  z5 := Tryd.sizeOf5
  v5 := Tryd.zeroValue5
  t9 := Tryd.underlying9
  a9 := Tryd.isAgg9
  z9 := Tryd.sizeOf9
  v9 := Tryd.zeroValue9
  t46 := Tryd.underlying158
  a46 := Tryd.isAgg158
  z46 := Tryd.sizeOf158
  v46 := Tryd.zeroValue158
  t51 := Tryd.underlying156
  a51 := Tryd.isAgg156
  z51 := Tryd.sizeOf156
  v51 := Tryd.zeroValue156 }
open Go.RowKit Go.Lib in
/-- hashStr: "returns the hash and the appropriate multiplicative factor for use in Rabin-Karp algorithm": THE HASH OF ALL OF sep, AND 16777619 ^ len(sep), both in uint32. (LAID: no walk: one application.) -/
theorem Tryd.bytealg_hashStr (sep : ByteArray) (hs : sep.size < 4294967281) (w : World) :
    Calls Tryd.prog 166 #[.string sep] w fun e w' => e = .returned (.tuple #[.int .u32 (RK.H sep.data.toList % 4294967296), .int .u32 (16777619 ^ sep.size % 4294967296)]) ∧ w' = w := Any.bytealg_hashStr Tryd.lays314 sep hs w
def Tryd.lays267_ren : Go.Shelf.Ren := ⟨fun | 267 => 164 | 314 => 166 | n => n, fun | 9 => 9 | 3 => 3 | 146 => 174 | 51 => 156 | 4 => 4 | 5 => 5 | 46 => 158 | n => n, fun | n => n⟩
theorem Tryd.lays267 : Go.Proofs.Lays.n267 Tryd.prog Tryd.lays267_ren := {
  mixed := by kernel_rfl
  f267 := Tryd.func164.trans (congrArg some (by kernel_rfl))
  f314 := Tryd.func166.trans (congrArg some (by kernel_rfl))
  t3 := Tryd.underlying3
  a3 := Tryd.isAgg3
  z3 := Tryd.sizeOf3
  v3 := Tryd.zeroValue3
  t4 := Tryd.underlying4
  a4 := Tryd.isAgg4
  z4 := Tryd.sizeOf4
  v4 := Tryd.zeroValue4
  t5 := Tryd.underlying5
  a5 := Tryd.isAgg5
  z5 := Tryd.sizeOf5
  v5 := Tryd.zeroValue5
  t9 := Tryd.underlying9
  a9 := Tryd.isAgg9
  z9 := Tryd.sizeOf9
  v9 := Tryd.zeroValue9
  t46 := Tryd.underlying158
  a46 := Tryd.isAgg158
  z46 := Tryd.sizeOf158
  v46 := Tryd.zeroValue158
  t51 := Tryd.underlying156
  a51 := Tryd.isAgg156
  z51 := Tryd.sizeOf156
  v51 := Tryd.zeroValue156
  t146 := Tryd.underlying174
  a146 := Tryd.isAgg174
  z146 := Tryd.sizeOf174
  v146 := Tryd.zeroValue174 }
open Go.RowKit Go.Lib in
theorem Tryd.bytealg_IndexRabinKarp (s sep : ByteArray) (h1 : 1 ≤ sep.size) (h2 : sep.size ≤ s.size) (hs : s.size < 4294967281) (w : World) :
    Calls Tryd.prog 164 #[.string s, .string sep] w fun e w' => e = .returned (.int .i64 (Lib.index s.data.toList sep.data.toList)) ∧ w' = w := Any.bytealg_IndexRabinKarp Tryd.lays267 s sep h1 h2 hs w
def Tryd.lays219_ren : Go.Shelf.Ren := ⟨fun | 219 => 159 | 217 => 161 | 225 => 162 | 224 => 163 | 267 => 164 | 266 => 165 | 314 => 166 | n => n, fun | 9 => 9 | 3 => 3 | 4 => 4 | 5 => 5 | 46 => 158 | 146 => 174 | 51 => 156 | n => n, fun | 1 => 3 | n => n⟩
theorem Tryd.lays219 : Go.Proofs.Lays.n219 Tryd.prog Tryd.lays219_ren := {
  mixed := by kernel_rfl
  f217 := Tryd.func161.trans (congrArg some (by kernel_rfl))
  f219 := Tryd.func159.trans (congrArg some (by kernel_rfl))
  f224 := Tryd.func163.trans (congrArg some (by kernel_rfl))
  f225 := Tryd.func162.trans (congrArg some (by kernel_rfl))
  f266 := Tryd.func165.trans (congrArg some (by kernel_rfl))
  f267 := Tryd.func164.trans (congrArg some (by kernel_rfl))
  f314 := Tryd.func166.trans (congrArg some (by kernel_rfl))
  t3 := Tryd.underlying3
  a3 := Tryd.isAgg3
  z3 := Tryd.sizeOf3
  v3 := Tryd.zeroValue3
  t4 := Tryd.underlying4
  a4 := Tryd.isAgg4
  z4 := Tryd.sizeOf4
  v4 := Tryd.zeroValue4
  t5 := Tryd.underlying5
  a5 := Tryd.isAgg5
  z5 := Tryd.sizeOf5
  v5 := Tryd.zeroValue5
  t9 := Tryd.underlying9
  a9 := Tryd.isAgg9
  z9 := Tryd.sizeOf9
  v9 := Tryd.zeroValue9
  t46 := Tryd.underlying158
  a46 := Tryd.isAgg158
  z46 := Tryd.sizeOf158
  v46 := Tryd.zeroValue158
  t51 := Tryd.underlying156
  a51 := Tryd.isAgg156
  z51 := Tryd.sizeOf156
  v51 := Tryd.zeroValue156
  t146 := Tryd.underlying174
  a146 := Tryd.isAgg174
  z146 := Tryd.sizeOf174
  v146 := Tryd.zeroValue174
  g1 := by kernel_rfl }
open Go.RowKit Go.Lib in
/-- internal/stringslite.Index (what strings.Index calls) AT A substr OF ONE BYTE c: IT RETURNS 'Lib.indexByte s c'; the world is as it was. (LAID: no walk: one application.) -/
theorem Tryd.stringslite_Index_one (s : ByteArray) (c : UInt8) (w : World) :
    Calls Tryd.prog 159 #[.string s, .string ⟨#[c]⟩] w fun e w' => e = .returned (.int .i64 (Lib.indexByte s.data.toList c)) ∧ w' = w := Any.stringslite_Index_one Tryd.lays219 s c w
open Go.RowKit Go.Lib in
/-- internal/stringslite.Index (what strings.Index calls) AT A substr OF WHATEVER LENGTH: IT RETURNS 'Lib.index s substr'; the world is as it was. 'm': what internal/bytealg.MaxLen holds: whatever. (LAID: no walk: one application.) -/
theorem Tryd.stringslite_Index (s sub : ByteArray) (m : Int) (w : World) (hs : s.size < 4294967281) (hm : w.cell? ⟨3, 0, none⟩ = some (.int .i64 m)) :
    Calls Tryd.prog 159 #[.string s, .string sub] w fun e w' => e = .returned (.int .i64 (Lib.index s.data.toList sub.data.toList)) ∧ w' = w := Any.stringslite_Index Tryd.lays219 s sub m w hs hm
def Tryd.lays143_ren : Go.Shelf.Ren := ⟨fun | 143 => 155 | 219 => 159 | 217 => 161 | 225 => 162 | 224 => 163 | 267 => 164 | 266 => 165 | 314 => 166 | n => n, fun | 9 => 9 | 3 => 3 | 4 => 4 | 5 => 5 | 46 => 158 | 146 => 174 | 51 => 156 | n => n, fun | 1 => 3 | n => n⟩
theorem Tryd.lays143 : Go.Proofs.Lays.n143 Tryd.prog Tryd.lays143_ren := {
  mixed := by kernel_rfl
  f143 := Tryd.func155.trans (congrArg some (by kernel_rfl))
  f217 := Tryd.func161.trans (congrArg some (by kernel_rfl))
  f219 := Tryd.func159.trans (congrArg some (by kernel_rfl))
  f224 := Tryd.func163.trans (congrArg some (by kernel_rfl))
  f225 := Tryd.func162.trans (congrArg some (by kernel_rfl))
  f266 := Tryd.func165.trans (congrArg some (by kernel_rfl))
  f267 := Tryd.func164.trans (congrArg some (by kernel_rfl))
  f314 := Tryd.func166.trans (congrArg some (by kernel_rfl))
  t3 := Tryd.underlying3
  a3 := Tryd.isAgg3
  z3 := Tryd.sizeOf3
  v3 := Tryd.zeroValue3
  t4 := Tryd.underlying4
  a4 := Tryd.isAgg4
  z4 := Tryd.sizeOf4
  v4 := Tryd.zeroValue4
  t5 := Tryd.underlying5
  a5 := Tryd.isAgg5
  z5 := Tryd.sizeOf5
  v5 := Tryd.zeroValue5
  t9 := Tryd.underlying9
  a9 := Tryd.isAgg9
  z9 := Tryd.sizeOf9
  v9 := Tryd.zeroValue9
  t46 := Tryd.underlying158
  a46 := Tryd.isAgg158
  z46 := Tryd.sizeOf158
  v46 := Tryd.zeroValue158
  t51 := Tryd.underlying156
  a51 := Tryd.isAgg156
  z51 := Tryd.sizeOf156
  v51 := Tryd.zeroValue156
  t146 := Tryd.underlying174
  a146 := Tryd.isAgg174
  z146 := Tryd.sizeOf174
  v146 := Tryd.zeroValue174
  g1 := by kernel_rfl }
open Go.RowKit Go.Lib in
/-- strings.Index: "Index returns the index of the first instance of substr in s, or -1 if substr is not present in s.": AT A substr OF ONE BYTE c: IT RETURNS 'Lib.indexByte s c'; the world is as it was. (LAID: no walk: one application.) -/
theorem Tryd.strings_Index_one (s : ByteArray) (c : UInt8) (w : World) :
    Calls Tryd.prog 155 #[.string s, .string ⟨#[c]⟩] w fun e w' => e = .returned (.int .i64 (Lib.indexByte s.data.toList c)) ∧ w' = w := Any.strings_Index_one Tryd.lays143 s c w
open Go.RowKit Go.Lib in
/-- strings.Index: "Index returns the index of the first instance of substr in s, or -1 if substr is not present in s.": IT RETURNS 'Lib.index s substr'; the world is as it was. (LAID: no walk: one application.) -/
theorem Tryd.strings_Index (s sub : ByteArray) (m : Int) (w : World) (hs : s.size < 4294967281) (hm : w.cell? ⟨3, 0, none⟩ = some (.int .i64 m)) :
    Calls Tryd.prog 155 #[.string s, .string sub] w fun e w' => e = .returned (.int .i64 (Lib.index s.data.toList sub.data.toList)) ∧ w' = w := Any.strings_Index Tryd.lays143 s sub m w hs hm
def Tryd.lays138_ren : Go.Shelf.Ren := ⟨fun | 138 => 154 | 195 => 156 | 218 => 158 | 143 => 155 | 219 => 159 | 217 => 161 | 225 => 162 | 224 => 163 | 267 => 164 | 266 => 165 | 314 => 166 | n => n, fun | 9 => 9 | 3 => 3 | 4 => 4 | 5 => 5 | 0 => 0 | 46 => 158 | 146 => 174 | 51 => 156 | n => n, fun | 1 => 3 | n => n⟩
theorem Tryd.lays138 : Go.Proofs.Lays.n138 Tryd.prog Tryd.lays138_ren := {
  mixed := by kernel_rfl
  f138 := Tryd.func154.trans (congrArg some (by kernel_rfl))
  f143 := Tryd.func155.trans (congrArg some (by kernel_rfl))
  f195 := Tryd.func156.trans (congrArg some (by kernel_rfl))
  f217 := Tryd.func161.trans (congrArg some (by kernel_rfl))
  f218 := Tryd.func158.trans (congrArg some (by kernel_rfl))
  f219 := Tryd.func159.trans (congrArg some (by kernel_rfl))
  f224 := Tryd.func163.trans (congrArg some (by kernel_rfl))
  f225 := Tryd.func162.trans (congrArg some (by kernel_rfl))
  f266 := Tryd.func165.trans (congrArg some (by kernel_rfl))
  f267 := Tryd.func164.trans (congrArg some (by kernel_rfl))
  f314 := Tryd.func166.trans (congrArg some (by kernel_rfl))
  t0 := Tryd.underlying0
  a0 := Tryd.isAgg0
  z0 := Tryd.sizeOf0
  v0 := Tryd.zeroValue0
  t3 := Tryd.underlying3
  a3 := Tryd.isAgg3
  z3 := Tryd.sizeOf3
  v3 := Tryd.zeroValue3
  t4 := Tryd.underlying4
  a4 := Tryd.isAgg4
  z4 := Tryd.sizeOf4
  v4 := Tryd.zeroValue4
  t5 := Tryd.underlying5
  a5 := Tryd.isAgg5
  z5 := Tryd.sizeOf5
  v5 := Tryd.zeroValue5
  t9 := Tryd.underlying9
  a9 := Tryd.isAgg9
  z9 := Tryd.sizeOf9
  v9 := Tryd.zeroValue9
  t46 := Tryd.underlying158
  a46 := Tryd.isAgg158
  z46 := Tryd.sizeOf158
  v46 := Tryd.zeroValue158
  t51 := Tryd.underlying156
  a51 := Tryd.isAgg156
  z51 := Tryd.sizeOf156
  v51 := Tryd.zeroValue156
  t146 := Tryd.underlying174
  a146 := Tryd.isAgg174
  z146 := Tryd.sizeOf174
  v146 := Tryd.zeroValue174
  g1 := by kernel_rfl }
open Go.RowKit Go.Lib in
/-- strings.Count AT A substr OF ONE BYTE ('hp'): "Count counts the number of non-overlapping instances of substr in s.": IT RETURNS 'Lib.countByte s (that byte)'; the world is as it was. ✋ NO CONTRACT HERE YET at an empty substr (utf8.RuneCountInString) or at a longer one (a loop over strings.Index). (LAID: no walk: one application.) -/
theorem Tryd.strings_Count_one (s : ByteArray) (c : UInt8) (w : World) :
    Calls Tryd.prog 154 #[.string s, .string ⟨#[c]⟩] w fun e w' => e = .returned (.int .i64 (Lib.countByte s.data.toList c)) ∧ w' = w := Any.strings_Count_one Tryd.lays138 s c w
open Go.RowKit Go.Lib in
/-- strings.Count AT A substr OF TWO BYTES OR MORE: "Count counts the number of non-overlapping instances of substr in s.": IT RETURNS 'Lib.count s substr'; the world is as it was. (LAID: no walk: one application.) -/
theorem Tryd.strings_Count (s sub : ByteArray) (m : Int) (w : World) (hs : s.size < 4294967281) (hm : w.cell? ⟨3, 0, none⟩ = some (.int .i64 m)) (h2 : 2 ≤ sub.size) :
    Calls Tryd.prog 154 #[.string s, .string sub] w fun e w' => e = .returned (.int .i64 (Lib.countB s sub)) ∧ w' = w := Any.strings_Count Tryd.lays138 s sub m w hs hm h2
def Tryd.laysM219_ren : Go.Shelf.Ren := ⟨fun | 219 => 159 | 217 => 161 | 225 => 162 | 224 => 163 | 267 => 164 | 266 => 165 | 314 => 166 | n => n, fun | 9 => 9 | 3 => 3 | 4 => 4 | 5 => 5 | 46 => 158 | 146 => 174 | 51 => 156 | n => n, fun | 1 => 3 | n => n⟩
theorem Tryd.laysM219 : Go.Proofs.LaysM.n219 Tryd.prog Tryd.laysM219_ren := {
  mixed := by kernel_rfl
  f217 := Tryd.func161.trans (congrArg some (by kernel_rfl))
  f219 := Tryd.func159.trans (congrArg some (by kernel_rfl))
  f224 := Tryd.func163.trans (congrArg some (by kernel_rfl))
  f225 := Tryd.func162.trans (congrArg some (by kernel_rfl))
  f266 := Tryd.func165.trans (congrArg some (by kernel_rfl))
  f267 := Tryd.func164.trans (congrArg some (by kernel_rfl))
  f314 := Tryd.func166.trans (congrArg some (by kernel_rfl))
  t3 := Tryd.underlying3
  a3 := Tryd.isAgg3
  z3 := Tryd.sizeOf3
  v3 := Tryd.zeroValue3
  t4 := Tryd.underlying4
  a4 := Tryd.isAgg4
  z4 := Tryd.sizeOf4
  v4 := Tryd.zeroValue4
  t5 := Tryd.underlying5
  a5 := Tryd.isAgg5
  z5 := Tryd.sizeOf5
  v5 := Tryd.zeroValue5
  t9 := Tryd.underlying9
  a9 := Tryd.isAgg9
  z9 := Tryd.sizeOf9
  v9 := Tryd.zeroValue9
  t46 := Tryd.underlying158
  a46 := Tryd.isAgg158
  z46 := Tryd.sizeOf158
  v46 := Tryd.zeroValue158
  t51 := Tryd.underlying156
  a51 := Tryd.isAgg156
  z51 := Tryd.sizeOf156
  v51 := Tryd.zeroValue156
  t146 := Tryd.underlying174
  a146 := Tryd.isAgg174
  z146 := Tryd.sizeOf174
  v146 := Tryd.zeroValue174
  g1 := by kernel_rfl
  i3 := by kernel_rfl
  i4 := by kernel_rfl
  i5 := by kernel_rfl
  i9 := by kernel_rfl
  i46 := by kernel_rfl
  i51 := by kernel_rfl
  i146 := by kernel_rfl
  m1 := by kernel_rfl
  s1_3 := fun w h => Go.Proofs.cell_of_shapedOpen_int (zero := #[.int .i64 0]) (t := 3) h (of_decide_eq_true (by kernel_rfl)) (by kernel_rfl) rfl (by kernel_rfl) (by kernel_rfl) Tryd.underlying3 }
open Go.RowKit Go.Lib in
theorem Tryd.stringslite_Index_shaped (s sub : ByteArray) (w : World) (h : w.ShapedOpen Tryd.prog) (hs : s.size < 4294967281) :
    Calls Tryd.prog 159 #[.string s, .string sub] w fun e w' => e = .returned (.int .i64 (Lib.index s.data.toList sub.data.toList)) ∧ w' = w := Any.stringslite_Index_shaped Tryd.laysM219 s sub w h hs
def Tryd.laysM143_ren : Go.Shelf.Ren := ⟨fun | 143 => 155 | 219 => 159 | 217 => 161 | 225 => 162 | 224 => 163 | 267 => 164 | 266 => 165 | 314 => 166 | n => n, fun | 9 => 9 | 3 => 3 | 4 => 4 | 5 => 5 | 46 => 158 | 146 => 174 | 51 => 156 | n => n, fun | 1 => 3 | n => n⟩
theorem Tryd.laysM143 : Go.Proofs.LaysM.n143 Tryd.prog Tryd.laysM143_ren := {
  mixed := by kernel_rfl
  f143 := Tryd.func155.trans (congrArg some (by kernel_rfl))
  f217 := Tryd.func161.trans (congrArg some (by kernel_rfl))
  f219 := Tryd.func159.trans (congrArg some (by kernel_rfl))
  f224 := Tryd.func163.trans (congrArg some (by kernel_rfl))
  f225 := Tryd.func162.trans (congrArg some (by kernel_rfl))
  f266 := Tryd.func165.trans (congrArg some (by kernel_rfl))
  f267 := Tryd.func164.trans (congrArg some (by kernel_rfl))
  f314 := Tryd.func166.trans (congrArg some (by kernel_rfl))
  t3 := Tryd.underlying3
  a3 := Tryd.isAgg3
  z3 := Tryd.sizeOf3
  v3 := Tryd.zeroValue3
  t4 := Tryd.underlying4
  a4 := Tryd.isAgg4
  z4 := Tryd.sizeOf4
  v4 := Tryd.zeroValue4
  t5 := Tryd.underlying5
  a5 := Tryd.isAgg5
  z5 := Tryd.sizeOf5
  v5 := Tryd.zeroValue5
  t9 := Tryd.underlying9
  a9 := Tryd.isAgg9
  z9 := Tryd.sizeOf9
  v9 := Tryd.zeroValue9
  t46 := Tryd.underlying158
  a46 := Tryd.isAgg158
  z46 := Tryd.sizeOf158
  v46 := Tryd.zeroValue158
  t51 := Tryd.underlying156
  a51 := Tryd.isAgg156
  z51 := Tryd.sizeOf156
  v51 := Tryd.zeroValue156
  t146 := Tryd.underlying174
  a146 := Tryd.isAgg174
  z146 := Tryd.sizeOf174
  v146 := Tryd.zeroValue174
  g1 := by kernel_rfl
  i3 := by kernel_rfl
  i4 := by kernel_rfl
  i5 := by kernel_rfl
  i9 := by kernel_rfl
  i46 := by kernel_rfl
  i51 := by kernel_rfl
  i146 := by kernel_rfl
  m1 := by kernel_rfl
  s1_3 := fun w h => Go.Proofs.cell_of_shapedOpen_int (zero := #[.int .i64 0]) (t := 3) h (of_decide_eq_true (by kernel_rfl)) (by kernel_rfl) rfl (by kernel_rfl) (by kernel_rfl) Tryd.underlying3 }
open Go.RowKit Go.Lib in
theorem Tryd.strings_Index_shaped (s sub : ByteArray) (w : World) (h : w.ShapedOpen Tryd.prog) (hs : s.size < 4294967281) :
    Calls Tryd.prog 155 #[.string s, .string sub] w fun e w' => e = .returned (.int .i64 (Lib.index s.data.toList sub.data.toList)) ∧ w' = w := Any.strings_Index_shaped Tryd.laysM143 s sub w h hs
def Tryd.laysM138_ren : Go.Shelf.Ren := ⟨fun | 138 => 154 | 195 => 156 | 218 => 158 | 143 => 155 | 219 => 159 | 217 => 161 | 225 => 162 | 224 => 163 | 267 => 164 | 266 => 165 | 314 => 166 | n => n, fun | 9 => 9 | 3 => 3 | 4 => 4 | 5 => 5 | 0 => 0 | 46 => 158 | 146 => 174 | 51 => 156 | n => n, fun | 1 => 3 | n => n⟩
theorem Tryd.laysM138 : Go.Proofs.LaysM.n138 Tryd.prog Tryd.laysM138_ren := {
  mixed := by kernel_rfl
  f138 := Tryd.func154.trans (congrArg some (by kernel_rfl))
  f143 := Tryd.func155.trans (congrArg some (by kernel_rfl))
  f195 := Tryd.func156.trans (congrArg some (by kernel_rfl))
  f217 := Tryd.func161.trans (congrArg some (by kernel_rfl))
  f218 := Tryd.func158.trans (congrArg some (by kernel_rfl))
  f219 := Tryd.func159.trans (congrArg some (by kernel_rfl))
  f224 := Tryd.func163.trans (congrArg some (by kernel_rfl))
  f225 := Tryd.func162.trans (congrArg some (by kernel_rfl))
  f266 := Tryd.func165.trans (congrArg some (by kernel_rfl))
  f267 := Tryd.func164.trans (congrArg some (by kernel_rfl))
  f314 := Tryd.func166.trans (congrArg some (by kernel_rfl))
  t0 := Tryd.underlying0
  a0 := Tryd.isAgg0
  z0 := Tryd.sizeOf0
  v0 := Tryd.zeroValue0
  t3 := Tryd.underlying3
  a3 := Tryd.isAgg3
  z3 := Tryd.sizeOf3
  v3 := Tryd.zeroValue3
  t4 := Tryd.underlying4
  a4 := Tryd.isAgg4
  z4 := Tryd.sizeOf4
  v4 := Tryd.zeroValue4
  t5 := Tryd.underlying5
  a5 := Tryd.isAgg5
  z5 := Tryd.sizeOf5
  v5 := Tryd.zeroValue5
  t9 := Tryd.underlying9
  a9 := Tryd.isAgg9
  z9 := Tryd.sizeOf9
  v9 := Tryd.zeroValue9
  t46 := Tryd.underlying158
  a46 := Tryd.isAgg158
  z46 := Tryd.sizeOf158
  v46 := Tryd.zeroValue158
  t51 := Tryd.underlying156
  a51 := Tryd.isAgg156
  z51 := Tryd.sizeOf156
  v51 := Tryd.zeroValue156
  t146 := Tryd.underlying174
  a146 := Tryd.isAgg174
  z146 := Tryd.sizeOf174
  v146 := Tryd.zeroValue174
  g1 := by kernel_rfl
  i0 := by kernel_rfl
  i3 := by kernel_rfl
  i4 := by kernel_rfl
  i5 := by kernel_rfl
  i9 := by kernel_rfl
  i46 := by kernel_rfl
  i51 := by kernel_rfl
  i146 := by kernel_rfl
  m1 := by kernel_rfl
  s1_3 := fun w h => Go.Proofs.cell_of_shapedOpen_int (zero := #[.int .i64 0]) (t := 3) h (of_decide_eq_true (by kernel_rfl)) (by kernel_rfl) rfl (by kernel_rfl) (by kernel_rfl) Tryd.underlying3 }
open Go.RowKit Go.Lib in
theorem Tryd.strings_Count_shaped (s sub : ByteArray) (w : World) (h : w.ShapedOpen Tryd.prog) (hs : s.size < 4294967281) (h2 : 2 ≤ sub.size) :
    Calls Tryd.prog 154 #[.string s, .string sub] w fun e w' => e = .returned (.int .i64 (Lib.countB s sub)) ∧ w' = w := Any.strings_Count_shaped Tryd.laysM138 s sub w h hs h2
open Go.RowKit Go.Lib in
/-- strings.Count at whatever sep that is not empty: the two roads under one statement. (LAID: no walk: one application.) -/
theorem Tryd.strings_Count_any (s sep : ByteArray) (m : Int) (w : World) (hs : s.size < 4294967281) (hm : w.cell? ⟨3, 0, none⟩ = some (.int .i64 m)) (h1 : 1 ≤ sep.size) :
    Calls Tryd.prog 154 #[.string s, .string sep] w fun e w' => e = .returned (.int .i64 (Lib.countB s sep)) ∧ w' = w := Any.strings_Count_any Tryd.lays138 s sep m w hs hm h1
def Tryd.lays221_ren : Go.Shelf.Ren := ⟨fun | 221 => 150 | 268 => 153 | 138 => 154 | 143 => 155 | 195 => 156 | 197 => 157 | 218 => 158 | 219 => 159 | 260 => 160 | 217 => 161 | 225 => 162 | 224 => 163 | 267 => 164 | 266 => 165 | 314 => 166 | n => n, fun | 9 => 9 | 3 => 3 | 31 => 136 | 4 => 4 | 0 => 0 | 105 => 167 | 21 => 21 | 5 => 5 | 46 => 158 | 119 => 170 | 139 => 173 | 138 => 172 | 146 => 174 | 51 => 156 | n => n, fun | 1 => 3 | 3 => 4 | 4 => 5 | n => n⟩
theorem Tryd.lays221 : Go.Proofs.Lays.n221 Tryd.prog Tryd.lays221_ren := {
  mixed := by kernel_rfl
  f138 := Tryd.func154.trans (congrArg some (by kernel_rfl))
  f143 := Tryd.func155.trans (congrArg some (by kernel_rfl))
  f195 := Tryd.func156.trans (congrArg some (by kernel_rfl))
  f197 := Tryd.func157.trans (congrArg some (by kernel_rfl))
  f217 := Tryd.func161.trans (congrArg some (by kernel_rfl))
  f218 := Tryd.func158.trans (congrArg some (by kernel_rfl))
  f219 := Tryd.func159.trans (congrArg some (by kernel_rfl))
  f221 := Tryd.func150.trans (congrArg some (by kernel_rfl))
  f224 := Tryd.func163.trans (congrArg some (by kernel_rfl))
  f225 := Tryd.func162.trans (congrArg some (by kernel_rfl))
  f260 := Tryd.func160.trans (congrArg some (by kernel_rfl))
  f266 := Tryd.func165.trans (congrArg some (by kernel_rfl))
  f267 := Tryd.func164.trans (congrArg some (by kernel_rfl))
  f268 := Tryd.func153.trans (congrArg some (by kernel_rfl))
  f314 := Tryd.func166.trans (congrArg some (by kernel_rfl))
  t0 := Tryd.underlying0
  a0 := Tryd.isAgg0
  z0 := Tryd.sizeOf0
  v0 := Tryd.zeroValue0
  t3 := Tryd.underlying3
  a3 := Tryd.isAgg3
  z3 := Tryd.sizeOf3
  v3 := Tryd.zeroValue3
  t4 := Tryd.underlying4
  a4 := Tryd.isAgg4
  z4 := Tryd.sizeOf4
  v4 := Tryd.zeroValue4
  t5 := Tryd.underlying5
  a5 := Tryd.isAgg5
  z5 := Tryd.sizeOf5
  v5 := Tryd.zeroValue5
  t9 := Tryd.underlying9
  a9 := Tryd.isAgg9
  z9 := Tryd.sizeOf9
  v9 := Tryd.zeroValue9
  t21 := Tryd.underlying21
  a21 := Tryd.isAgg21
  z21 := Tryd.sizeOf21
  v21 := Tryd.zeroValue21
  t31 := Tryd.underlying136
  a31 := Tryd.isAgg136
  z31 := Tryd.sizeOf136
  v31 := Tryd.zeroValue136
  t46 := Tryd.underlying158
  a46 := Tryd.isAgg158
  z46 := Tryd.sizeOf158
  v46 := Tryd.zeroValue158
  t51 := Tryd.underlying156
  a51 := Tryd.isAgg156
  z51 := Tryd.sizeOf156
  v51 := Tryd.zeroValue156
  t105 := Tryd.underlying167
  a105 := Tryd.isAgg167
  z105 := Tryd.sizeOf167
  v105 := Tryd.zeroValue167
  t119 := Tryd.underlying170
  a119 := Tryd.isAgg170
  z119 := Tryd.sizeOf170
  t138 := Tryd.underlying172
  a138 := Tryd.isAgg172
  z138 := Tryd.sizeOf172
  v138 := Tryd.zeroValue172
  t139 := Tryd.underlying173
  a139 := Tryd.isAgg173
  z139 := Tryd.sizeOf173
  v139 := Tryd.zeroValue173
  t146 := Tryd.underlying174
  a146 := Tryd.isAgg174
  z146 := Tryd.sizeOf174
  v146 := Tryd.zeroValue174
  g1 := by kernel_rfl
  g3 := by kernel_rfl
  g4 := by kernel_rfl }
open Go.RowKit Go.Lib in
theorem Tryd.strings_genSplit (s sep : ByteArray) (sv : Nat) (n : Int) (N : Nat) (m : Int) (w : World) (hs : s.size < 4294967281) (hm : w.cell? ⟨3, 0, none⟩ = some (.int .i64 m)) (h1 : 1 ≤ sep.size) (hsv : sv ≤ sep.size) (hn0 : n ≠ 0) (hn63 : n ≤ 9223372036854775807) (hN : (N : Int) = min (if n < 0 then (Lib.countB s sep : Int) + 1 else n) ((s.size : Int) + 1)) :
    Calls Tryd.prog 150 #[.string s, .string sep, .int .i64 sv, .int .i64 n] w fun e w' =>
      e = .returned (.slice (some ⟨w.heap.size, 0, none⟩) (Lib.splitB sep sv (N - 1) s).length N) ∧ w' = w.alloc (.cells (Lib.cellsOf (Lib.splitB sep sv (N - 1) s) N) 9) := Any.strings_genSplit Tryd.lays221 (by kernel_rfl) s sep sv n N m w hs hm h1 hsv hn0 hn63 hN
def Tryd.lays146_ren : Go.Shelf.Ren := ⟨fun | 146 => 140 | 221 => 150 | 268 => 153 | 138 => 154 | 143 => 155 | 195 => 156 | 197 => 157 | 218 => 158 | 219 => 159 | 260 => 160 | 217 => 161 | 225 => 162 | 224 => 163 | 267 => 164 | 266 => 165 | 314 => 166 | n => n, fun | 9 => 9 | 31 => 136 | 3 => 3 | 4 => 4 | 0 => 0 | 105 => 167 | 21 => 21 | 5 => 5 | 46 => 158 | 119 => 170 | 139 => 173 | 138 => 172 | 146 => 174 | 51 => 156 | n => n, fun | 1 => 3 | 3 => 4 | 4 => 5 | n => n⟩
theorem Tryd.lays146 : Go.Proofs.Lays.n146 Tryd.prog Tryd.lays146_ren := {
  mixed := by kernel_rfl
  f138 := Tryd.func154.trans (congrArg some (by kernel_rfl))
  f143 := Tryd.func155.trans (congrArg some (by kernel_rfl))
  f146 := Tryd.func140.trans (congrArg some (by kernel_rfl))
  f195 := Tryd.func156.trans (congrArg some (by kernel_rfl))
  f197 := Tryd.func157.trans (congrArg some (by kernel_rfl))
  f217 := Tryd.func161.trans (congrArg some (by kernel_rfl))
  f218 := Tryd.func158.trans (congrArg some (by kernel_rfl))
  f219 := Tryd.func159.trans (congrArg some (by kernel_rfl))
  f221 := Tryd.func150.trans (congrArg some (by kernel_rfl))
  f224 := Tryd.func163.trans (congrArg some (by kernel_rfl))
  f225 := Tryd.func162.trans (congrArg some (by kernel_rfl))
  f260 := Tryd.func160.trans (congrArg some (by kernel_rfl))
  f266 := Tryd.func165.trans (congrArg some (by kernel_rfl))
  f267 := Tryd.func164.trans (congrArg some (by kernel_rfl))
  f268 := Tryd.func153.trans (congrArg some (by kernel_rfl))
  f314 := Tryd.func166.trans (congrArg some (by kernel_rfl))
  t0 := Tryd.underlying0
  a0 := Tryd.isAgg0
  z0 := Tryd.sizeOf0
  v0 := Tryd.zeroValue0
  t3 := Tryd.underlying3
  a3 := Tryd.isAgg3
  z3 := Tryd.sizeOf3
  v3 := Tryd.zeroValue3
  t4 := Tryd.underlying4
  a4 := Tryd.isAgg4
  z4 := Tryd.sizeOf4
  v4 := Tryd.zeroValue4
  t5 := Tryd.underlying5
  a5 := Tryd.isAgg5
  z5 := Tryd.sizeOf5
  v5 := Tryd.zeroValue5
  t9 := Tryd.underlying9
  a9 := Tryd.isAgg9
  z9 := Tryd.sizeOf9
  v9 := Tryd.zeroValue9
  t21 := Tryd.underlying21
  a21 := Tryd.isAgg21
  z21 := Tryd.sizeOf21
  v21 := Tryd.zeroValue21
  t31 := Tryd.underlying136
  a31 := Tryd.isAgg136
  z31 := Tryd.sizeOf136
  v31 := Tryd.zeroValue136
  t46 := Tryd.underlying158
  a46 := Tryd.isAgg158
  z46 := Tryd.sizeOf158
  v46 := Tryd.zeroValue158
  t51 := Tryd.underlying156
  a51 := Tryd.isAgg156
  z51 := Tryd.sizeOf156
  v51 := Tryd.zeroValue156
  t105 := Tryd.underlying167
  a105 := Tryd.isAgg167
  z105 := Tryd.sizeOf167
  v105 := Tryd.zeroValue167
  t119 := Tryd.underlying170
  a119 := Tryd.isAgg170
  z119 := Tryd.sizeOf170
  t138 := Tryd.underlying172
  a138 := Tryd.isAgg172
  z138 := Tryd.sizeOf172
  v138 := Tryd.zeroValue172
  t139 := Tryd.underlying173
  a139 := Tryd.isAgg173
  z139 := Tryd.sizeOf173
  v139 := Tryd.zeroValue173
  t146 := Tryd.underlying174
  a146 := Tryd.isAgg174
  z146 := Tryd.sizeOf174
  v146 := Tryd.zeroValue174
  g1 := by kernel_rfl
  g3 := by kernel_rfl
  g4 := by kernel_rfl }
open Go.RowKit Go.Lib in
/-- strings.Split. (LAID: no walk: one application.) -/
theorem Tryd.strings_Split (s sep : ByteArray) (m : Int) (w : World) (hs : s.size < 4294967281) (hm : w.cell? ⟨3, 0, none⟩ = some (.int .i64 m)) (h1 : 1 ≤ sep.size) :
    Calls Tryd.prog 140 #[.string s, .string sep] w fun e w' =>
      e = .returned (.slice (some ⟨w.heap.size, 0, none⟩) (Lib.countB s sep + 1) (Lib.countB s sep + 1)) ∧ w' = w.alloc (.cells ((Lib.splitB sep 0 (Lib.countB s sep) s).map Value.string).toArray 9) := Any.strings_Split Tryd.lays146 (by kernel_rfl) s sep m w hs hm h1
def Tryd.lays260_ren : Go.Shelf.Ren := ⟨fun | 260 => 160 | n => n, fun | 9 => 9 | 21 => 21 | 3 => 3 | 4 => 4 | 5 => 5 | 119 => 170 | 0 => 0 | 46 => 158 | 139 => 173 | 138 => 172 | n => n, fun | 3 => 4 | 4 => 5 | n => n⟩
theorem Tryd.lays260 : Go.Proofs.Lays.n260 Tryd.prog Tryd.lays260_ren := {
  mixed := by kernel_rfl
  f260 := Tryd.func160.trans (congrArg some (by kernel_rfl))
  t0 := Tryd.underlying0
  a0 := Tryd.isAgg0
  z0 := Tryd.sizeOf0
  v0 := Tryd.zeroValue0
  t3 := Tryd.underlying3
  a3 := Tryd.isAgg3
  z3 := Tryd.sizeOf3
  v3 := Tryd.zeroValue3
  t4 := Tryd.underlying4
  a4 := Tryd.isAgg4
  z4 := Tryd.sizeOf4
  v4 := Tryd.zeroValue4
  t5 := Tryd.underlying5
  a5 := Tryd.isAgg5
  z5 := Tryd.sizeOf5
  v5 := Tryd.zeroValue5
  t9 := Tryd.underlying9
  a9 := Tryd.isAgg9
  z9 := Tryd.sizeOf9
  v9 := Tryd.zeroValue9
  t21 := Tryd.underlying21
  a21 := Tryd.isAgg21
  z21 := Tryd.sizeOf21
  v21 := Tryd.zeroValue21
  t46 := Tryd.underlying158
  a46 := Tryd.isAgg158
  z46 := Tryd.sizeOf158
  v46 := Tryd.zeroValue158
  t119 := Tryd.underlying170
  a119 := Tryd.isAgg170
  z119 := Tryd.sizeOf170
  t138 := Tryd.underlying172
  a138 := Tryd.isAgg172
  z138 := Tryd.sizeOf172
  v138 := Tryd.zeroValue172
  t139 := Tryd.underlying173
  a139 := Tryd.isAgg173
  z139 := Tryd.sizeOf173
  v139 := Tryd.zeroValue173
  g3 := by kernel_rfl
  g4 := by kernel_rfl }
open Go.RowKit Go.Lib in
theorem Tryd.utf8_decodeRuneInStringSlow (s : ByteArray) (w : World) (hT : Lib.Utf8Tabs 4 5 w) :
    Calls Tryd.prog 160 #[.string s] w fun e w' => e = .returned (.tuple #[.int .i32 (Lib.decodeGo s).1, .int .i64 (Lib.decodeGo s).2]) ∧ Below w.heap.size w w' := Any.utf8_decodeRuneInStringSlow Tryd.lays260 s w hT
end Go.Proofs
set_option linter.unusedVariables false
set_option linter.unusedSimpArgs false
namespace Go.Proofs.T
open Go.OM
theorem ent140 : Enters E.P 140 := enters_of Tryd.func140 (by simp [Tryd.f140]) rfl
theorem maxLen_cell {w : World} (h : E.Gl w) : ∃ m, w.cell? ⟨3, 0, none⟩ = some (.int .i64 m) := by
  obtain ⟨cs, t, fr, h1, m, h2⟩ := h _ (List.mem_singleton.2 rfl)
  refine ⟨m, ?_⟩
  have h1' : w.heap[3]? = some (.cells cs t fr) := h1
  simp [World.cell?, h1', h2]
theorem strings_Split_ok (s sep : ByteArray) {r0 : List ByteArray} (h : strings_Split s sep = some r0) : Ok E 140 [.val (vs s), .val (vs sep)] [.sl true 1 (List.map vs r0)] [] := by
  unfold strings_Split at h
  split at h
  case isFalse => cases h
  rename_i hr
  injection h with h
  subst h
  have := ok_fresh (E := E) (f := 140) (ty := 9) (xs := [.string s, .string sep]) (es := (Lib.splitB sep 0 (Lib.countB s sep) s).map Value.string) (by simp [TA.OneCell]) fun w hw => by
    obtain ⟨m, hm⟩ := maxLen_cell hw
    have h1 := Tryd.strings_Split s sep m w hr.1 hm hr.2.1
    refine h1.mono fun e w' ⟨h2, h3⟩ => ⟨?_, h3⟩
    rw [h2, List.length_map, hr.2.2]
    try rfl
  rw [List.map_map] at this
  exact this
end Go.Proofs.T
set_option linter.unusedVariables false
set_option linter.unusedSimpArgs false
set_option maxHeartbeats 1000000
namespace Go.Proofs.T
open Go.OM
theorem res126 : Tryd.f126.results.toList = [.tmp 4] := rfl
theorem ent126 : Enters E.P 126 := enters_of Tryd.func126 (by simp [Tryd.f126]) rfl
theorem impl_oneOf_ok (s1 : ByteArray) (words2 : ByteArray) {r0 : Bool} (h : impl_oneOf s1 words2 = some r0) : Ok E 126 [.val (vs s1), .val (vs words2)] [vb r0] [] := by
  refine ok_of_body (fn := Tryd.f126) Tryd.func126 rfl (by simp [Tryd.f126]) fun C hN hP => ?_
  have hPB : ∀ l, pinK [] l = true → pinB C.pin l = true := pinB_of (by rw [hP]; rfl)
  have hN' : C.N = 18 := hN
  clear hN
  unfold impl_oneOf at h
  refine SWp.seqR rfl (hPB _ rfl) fun K hK => ?_
  refine wps_cons rfl fun K hK => ?_; simp [hN']; refine hK _ ?_; clear hK
  refine wps_nil (hK _ ?_); clear hK
  obtain ⟨j5, hj3, h⟩ := bind_some h
  refine SWp.seqC [] [] (fun v : Unit => ⟨[], []⟩) (fun v => j5 = Sum.inl v) (fun v hv => ?_) fun K4 hK4 => ?_
  rotate_left
  · refine SWp.seqR rfl (hPB _ rfl) fun K hK => ?_
    refine wps_cons rfl fun K hK => ?_; simp [hN']; refine hK _ ?_; clear hK
    obtain ⟨r6, hc7, hj3⟩ := bind_some hj3
    refine wps_call [(.take, .tmp 7), (.take, .const (.string (⟨#[32]⟩ : ByteArray)))] rfl rfl ent140 (strings_Split_ok _ _ hc7) fun K hK => ?_; simp [hN']; refine hK _ ?_; clear hK
    iterate 2 (refine wps_cons rfl fun K hK => ?_; simp [hN']; refine hK _ ?_; clear hK)
    refine wps_nil (hK _ ?_); clear hK
    refine SWp.block ?_
    refine SWp.loopO [] [0, 8, 9, 10] [] (fun v : Int => ⟨[(0, .t (vs s1)), (8, .t (.sl true 1 (List.map vs r6))), (9, .t (vi (r6.length : Int))), (10, .t (vi v))], []⟩) (impl_oneOf_l1 s1 r6) _ 0 hj3 (by simp [hN']) ?_
    intro g s11 h9 ho10
    obtain ⟨v8, hg⟩ : ∃ y, y = g := ⟨_, rfl⟩
    subst hg
    simp only [impl_oneOf_l1] at h9
    try dsimp only
    refine SWp.seqR rfl (hPB _ rfl) fun K hK => ?_
    refine wps_cons rfl fun K hK => ?_; simp [hN']; refine hK _ ?_; clear hK
    refine wps_nil (hK _ ?_); clear hK
    refine SWp.seq ?_
    rcases ite_or h9 with ⟨hb12, h9⟩ | ⟨hb13, h9⟩
    · refine SWp.condT' (b := decide (v8 < (r6.length : Int))) (by simp) hb12 ?_
      refine SWp.skip ?_
      show SWp E C _ _ _
      refine SWp.seq ?_
      refine SWp.block ?_
      refine SWp.seqR rfl (hPB _ rfl) fun K hK => ?_
      obtain ⟨e14, he14, h9⟩ := bind_some h9
      obtain ⟨he14a, he14b, he14c, he14d⟩ := getI_some he14
      iterate 3 (refine wps_cons rfl fun K hK => ?_; simp [hN', he14a, he14b, he14c, he14d]; refine hK _ ?_; clear hK)
      refine wps_nil (hK _ ?_); clear hK
      refine SWp.seqR rfl (hPB _ rfl) fun K hK => ?_
      iterate 3 (refine wps_cons rfl fun K hK => ?_; simp [hN']; refine hK _ ?_; clear hK)
      refine wps_nil (hK _ ?_); clear hK
      rcases ite_or h9 with ⟨hb15, h9⟩ | ⟨hb16, h9⟩
      · refine SWp.condT' (b := sEq e14 s1) (by simp) hb15 ?_
        refine SWp.seqR rfl (hPB _ rfl) fun K hK => ?_
        refine wps_cons rfl fun K hK => ?_; simp [hN']; refine hK _ ?_; clear hK
        refine wps_nil (hK _ ?_); clear hK
        have h17 := congrArg some (ho10 _ (Option.some.inj h9).symm)
        cases h17
        try dsimp only at h
        cases h
        refine SWp.ret ?_
        simp [thenS, inBlockS, res126]
      · refine SWp.condF' (b := sEq e14 s1) (by simp) hb16 ?_
        refine SWp.skip ?_
        show SWp E C _ _ _
        refine SWp.reg rfl (hPB _ rfl) fun K hK => ?_
        iterate 2 (refine wps_cons rfl fun K hK => ?_; simp [hN']; refine hK _ ?_; clear hK)
        refine wps_nil (hK _ ?_); clear hK
        cases h9
        exact ⟨_, [], rfl, by simp [hN']⟩
    · refine SWp.condF' (b := decide (v8 < (r6.length : Int))) (by simp) hb13 ?_
      refine SWp.exit ?_
      have h18 := congrArg some (ho10 _ (Option.some.inj h9).symm)
      cases h18
      exact hK4 _ _ [] rfl (by simp [hN'])
  subst hv
  obtain ⟨⟩ := v
  try dsimp only at h ⊢
  refine SWp.seqR rfl (hPB _ rfl) fun K hK => ?_
  refine wps_cons rfl fun K hK => ?_; simp [hN']; refine hK _ ?_; clear hK
  refine wps_nil (hK _ ?_); clear hK
  cases h
  refine SWp.ret ?_
  simp [thenS, inBlockS, res126]
end Go.Proofs.T
set_option linter.unusedVariables false
set_option linter.unusedSimpArgs false
set_option maxHeartbeats 1000000
namespace Go.Proofs.T
open Go.OM
theorem res113 : Tryd.f113.results.toList = [.tmp 2] := rfl
theorem ent113 : Enters E.P 113 := enters_of Tryd.func113 (by simp [Tryd.f113]) rfl
theorem impl_KeyWord_ok (s1 : ByteArray) {r0 : Bool} (h : impl_KeyWord s1 = some r0) : Ok E 113 [.val (vs s1)] [vb r0] [] := by
  refine ok_of_body (fn := Tryd.f113) Tryd.func113 rfl (by simp [Tryd.f113]) fun C hN hP => ?_
  have hPB : ∀ l, pinK [] l = true → pinB C.pin l = true := pinB_of (by rw [hP]; rfl)
  have hN' : C.N = 5 := hN
  clear hN
  unfold impl_KeyWord at h
  refine SWp.seqR rfl (hPB _ rfl) fun K hK => ?_
  refine wps_cons rfl fun K hK => ?_; simp [hN']; refine hK _ ?_; clear hK
  refine wps_nil (hK _ ?_); clear hK
  refine SWp.seqR rfl (hPB _ rfl) fun K hK => ?_
  refine wps_cons rfl fun K hK => ?_; simp [hN']; refine hK _ ?_; clear hK
  obtain ⟨r2, hc3, h⟩ := bind_some h
  refine wps_call [(.take, .tmp 3), (.take, .const (.string (⟨#[102, 110, 32, 108, 101, 116, 32, 105, 102, 32, 101, 108, 115, 101, 32, 119, 104, 105, 108, 101, 32, 112, 114, 105, 110, 116, 32, 100, 111, 32, 110, 101, 119, 32, 99, 108, 111, 110, 101, 32, 109, 117, 116, 32, 105, 110, 112, 117, 116, 32, 105, 110, 116, 32, 98, 111, 120, 32, 114, 101, 116]⟩ : ByteArray)))] rfl rfl ent126 (impl_oneOf_ok _ _ hc3) fun K hK => ?_; simp [hN']; refine hK _ ?_; clear hK
  refine wps_cons rfl fun K hK => ?_; simp [hN']; refine hK _ ?_; clear hK
  refine wps_nil (hK _ ?_); clear hK
  cases h
  refine SWp.ret ?_
  simp [thenS, inBlockS, res113]
end Go.Proofs.T
set_option linter.unusedVariables false
set_option linter.unusedSimpArgs false
set_option maxHeartbeats 1000000
namespace Go.Proofs.T
open Go.OM
theorem res86 : Tryd.f86.results.toList = [.tmp 2] := rfl
theorem ent86 : Enters E.P 86 := enters_of Tryd.func86 (by simp [Tryd.f86]) rfl
theorem impl_NameOk_ok (s1 : ByteArray) {r0 : Bool} (h : impl_NameOk s1 = some r0) : Ok E 86 [.val (vs s1)] [vb r0] [] := by
  refine ok_of_body (fn := Tryd.f86) Tryd.func86 rfl (by simp [Tryd.f86]) fun C hN hP => ?_
  have hPB : ∀ l, pinK [] l = true → pinB C.pin l = true := pinB_of (by rw [hP]; rfl)
  have hN' : C.N = 35 := hN
  clear hN
  unfold impl_NameOk at h
  refine SWp.seqR rfl (hPB _ rfl) fun K hK => ?_
  refine wps_cons rfl fun K hK => ?_; simp [hN']; refine hK _ ?_; clear hK
  refine wps_nil (hK _ ?_); clear hK
  refine SWp.seq ?_
  obtain ⟨v11, hj2, h⟩ := bind_some h
  refine SWp.seqRC rfl (hPB _ rfl) [0, 13] [] (fun _ : Unit => ⟨[(0, .t (vs s1)), (13, .t (vb v11))], []⟩) (fun _ => True) (fun _ _ => ?_) fun K3 hK3 => ?_
  rotate_left
  · refine wps_cons rfl fun K hK => ?_; simp [hN']; refine hK _ ?_; clear hK
    refine wps_cons rfl fun K hK => ?_; simp [hN']; refine hK _ ?_; clear hK
    obtain ⟨r4, hc5, hj2⟩ := bind_some hj2
    refine wps_call [(.take, .tmp 5), (.take, .const (.int .i64 1)), (.take, .const (.int .i64 8))] rfl rfl ent66 (impl_in_ok _ _ _ hc5) fun K hK => ?_; simp [hN']; refine hK _ ?_; clear hK
    iterate 2 (refine wps_cons rfl fun K hK => ?_; simp [hN']; refine hK _ ?_; clear hK)
    rcases ite_or hj2 with ⟨hb6, hj2⟩ | ⟨hb7, hj2⟩
    · have hb6s := hb6
      try simp at hb6s
      iterate 4 (refine wps_off fun K hK => ?_; simp [hN', hb6, hb6s]; refine hK _ ?_; clear hK)
      refine wps_cons rfl fun K hK => ?_; simp [hN', hb6, hb6s]; refine hK _ ?_; clear hK
      refine wps_nil ?_
      cases hj2
      exact hK3 _ () [] trivial (by simp [hN', hb6, hb6s])
    · have hb7s := hb7
      try simp at hb7s
      refine wps_cons rfl fun K hK => ?_; simp [hN', hb7, hb7s]; refine hK _ ?_; clear hK
      obtain ⟨c8, hc8, hj2⟩ := bind_some hj2
      obtain ⟨hc8a, hc8b, hc8c⟩ := sAt_some hc8
      have hc8e : 0 < s1.size := by omega
      refine wps_cons rfl fun K hK => ?_; simp [hN', hb7, hb7s, hc8a, hc8b, hc8c, hc8e]; refine hK _ ?_; clear hK
      obtain ⟨r9, hc10, hj2⟩ := bind_some hj2
      refine wps_call [(.take, .tmp 10)] rfl rfl ent111 (impl_isLetter_ok _ hc10) fun K hK => ?_; simp [hN', hb7, hb7s, hc8a, hc8b, hc8c, hc8e]; refine hK _ ?_; clear hK
      iterate 2 (refine wps_cons rfl fun K hK => ?_; simp [hN', hb7, hb7s, hc8a, hc8b, hc8c, hc8e]; refine hK _ ?_; clear hK)
      refine wps_nil ?_
      cases hj2
      exact hK3 _ () [] trivial (by simp [hN', hb7, hb7s, hc8a, hc8b, hc8c, hc8e])
  rcases ite_or h with ⟨hb12, h⟩ | ⟨hb13, h⟩
  · refine SWp.condT' (b := v11) (by simp) hb12 ?_
    refine SWp.seqR rfl (hPB _ rfl) fun K hK => ?_
    refine wps_cons rfl fun K hK => ?_; simp [hN']; refine hK _ ?_; clear hK
    refine wps_nil (hK _ ?_); clear hK
    cases h
    refine SWp.ret ?_
    simp [thenS, inBlockS, res86]
  · refine SWp.condF' (b := v11) (by simp) hb13 ?_
    refine SWp.skip ?_
    show SWp E C _ _ _
    obtain ⟨j16, hj14, h⟩ := bind_some h
    refine SWp.seqC [0] [] (fun v : Unit => ⟨[(0, .t (vs s1))], []⟩) (fun v => j16 = Sum.inl v) (fun v hv => ?_) fun K15 hK15 => ?_
    rotate_left
    · refine SWp.seqR rfl (hPB _ rfl) fun K hK => ?_
      refine wps_cons rfl fun K hK => ?_; simp [hN']; refine hK _ ?_; clear hK
      refine wps_nil (hK _ ?_); clear hK
      refine SWp.block ?_
      refine SWp.loopO [] [0, 3] [] (fun v : Int => ⟨[(0, .t (vs s1)), (3, .t (vi v))], []⟩) (impl_NameOk_l1 s1) _ 0 hj14 (by simp [hN']) ?_
      intro g s20 h18 ho19
      obtain ⟨i17, hg⟩ : ∃ y, y = g := ⟨_, rfl⟩
      subst hg
      simp only [impl_NameOk_l1] at h18
      try dsimp only
      refine SWp.seq ?_
      refine SWp.seqR rfl (hPB _ rfl) fun K hK => ?_
      iterate 4 (refine wps_cons rfl fun K hK => ?_; simp [hN']; refine hK _ ?_; clear hK)
      refine wps_nil (hK _ ?_); clear hK
      rcases ite_or h18 with ⟨hb21, h18⟩ | ⟨hb22, h18⟩
      · refine SWp.condT' (b := decide (i17 < (s1.size : Int))) (by simp) hb21 ?_
        refine SWp.skip ?_
        show SWp E C _ _ _
        refine SWp.seq ?_
        refine SWp.block ?_
        obtain ⟨v32, hj23, h18⟩ := bind_some h18
        refine SWp.seqRC rfl (hPB _ rfl) [0, 3, 31] [] (fun _ : Unit => ⟨[(0, .t (vs s1)), (3, .t (vi i17)), (31, .t (vb v32))], []⟩) (fun _ => True) (fun _ _ => ?_) fun K24 hK24 => ?_
        rotate_left
        · refine wps_cons rfl fun K hK => ?_; simp [hN']; refine hK _ ?_; clear hK
          refine wps_cons rfl fun K hK => ?_; simp [hN']; refine hK _ ?_; clear hK
          obtain ⟨c25, hc25, hj23⟩ := bind_some hj23
          obtain ⟨hc25a, hc25b, hc25c⟩ := sAt_some hc25
          refine wps_cons rfl fun K hK => ?_; simp [hN', hc25a, hc25b, hc25c]; refine hK _ ?_; clear hK
          obtain ⟨r26, hc27, hj23⟩ := bind_some hj23
          refine wps_call [(.take, .tmp 22)] rfl rfl ent111 (impl_isLetter_ok _ hc27) fun K hK => ?_; simp [hN', hc25a, hc25b, hc25c]; refine hK _ ?_; clear hK
          iterate 2 (refine wps_cons rfl fun K hK => ?_; simp [hN', hc25a, hc25b, hc25c]; refine hK _ ?_; clear hK)
          rcases ite_or hj23 with ⟨hb28, hj23⟩ | ⟨hb29, hj23⟩
          · have hb28s := hb28
            try simp at hb28s
            iterate 3 (refine wps_cons rfl fun K hK => ?_; simp [hN', hc25a, hc25b, hc25c, hb28, hb28s]; refine hK _ ?_; clear hK)
            obtain ⟨r30, hc31, hj23⟩ := bind_some hj23
            refine wps_call [(.take, .tmp 28)] rfl rfl ent112 (impl_isFigure_ok _ hc31) fun K hK => ?_; simp [hN', hc25a, hc25b, hc25c, hb28, hb28s]; refine hK _ ?_; clear hK
            iterate 2 (refine wps_cons rfl fun K hK => ?_; simp [hN', hc25a, hc25b, hc25c, hb28, hb28s]; refine hK _ ?_; clear hK)
            refine wps_nil ?_
            cases hj23
            exact hK24 _ () [] trivial (by simp [hN', hc25a, hc25b, hc25c, hb28, hb28s])
          · have hb29s := hb29
            try simp at hb29s
            iterate 5 (refine wps_off fun K hK => ?_; simp [hN', hc25a, hc25b, hc25c, hb29, hb29s]; refine hK _ ?_; clear hK)
            refine wps_cons rfl fun K hK => ?_; simp [hN', hc25a, hc25b, hc25c, hb29, hb29s]; refine hK _ ?_; clear hK
            refine wps_nil ?_
            cases hj23
            exact hK24 _ () [] trivial (by simp [hN', hc25a, hc25b, hc25c, hb29, hb29s])
        rcases ite_or h18 with ⟨hb33, h18⟩ | ⟨hb34, h18⟩
        · refine SWp.condT' (b := v32) (by simp) hb33 ?_
          refine SWp.seqR rfl (hPB _ rfl) fun K hK => ?_
          refine wps_cons rfl fun K hK => ?_; simp [hN']; refine hK _ ?_; clear hK
          refine wps_nil (hK _ ?_); clear hK
          have h35 := congrArg some (ho19 _ (Option.some.inj h18).symm)
          cases h35
          try dsimp only at h
          cases h
          refine SWp.ret ?_
          simp [thenS, inBlockS, res86]
        · refine SWp.condF' (b := v32) (by simp) hb34 ?_
          refine SWp.skip ?_
          show SWp E C _ _ _
          refine SWp.reg rfl (hPB _ rfl) fun K hK => ?_
          iterate 3 (refine wps_cons rfl fun K hK => ?_; simp [hN']; refine hK _ ?_; clear hK)
          refine wps_nil (hK _ ?_); clear hK
          cases h18
          exact ⟨_, [], rfl, by simp [hN']⟩
      · refine SWp.condF' (b := decide (i17 < (s1.size : Int))) (by simp) hb22 ?_
        refine SWp.exit ?_
        have h36 := congrArg some (ho19 _ (Option.some.inj h18).symm)
        cases h36
        exact hK15 _ _ [] rfl (by simp [hN'])
    subst hv
    obtain ⟨⟩ := v
    try dsimp only at h ⊢
    refine SWp.seqR rfl (hPB _ rfl) fun K hK => ?_
    refine wps_cons rfl fun K hK => ?_; simp [hN']; refine hK _ ?_; clear hK
    obtain ⟨r37, hc38, h⟩ := bind_some h
    refine wps_call [(.take, .tmp 32)] rfl rfl ent113 (impl_KeyWord_ok _ hc38) fun K hK => ?_; simp [hN']; refine hK _ ?_; clear hK
    iterate 2 (refine wps_cons rfl fun K hK => ?_; simp [hN']; refine hK _ ?_; clear hK)
    refine wps_nil (hK _ ?_); clear hK
    cases h
    refine SWp.ret ?_
    simp [thenS, inBlockS, res86]
end Go.Proofs.T
set_option linter.unusedVariables false
set_option linter.unusedSimpArgs false
set_option maxHeartbeats 1000000
namespace Go.Proofs.T
open Go.OM
theorem res114 : Tryd.f114.results.toList = [.tmp 6] := rfl
theorem ent114 : Enters E.P 114 := enters_of Tryd.func114 (by simp [Tryd.f114]) rfl
theorem impl_isPlace_ok (c1 : GCode) (n2 : Int) (has3 : Bool) {r0 : Bool} (h : impl_isPlace c1 n2 has3 = some r0) : Ok E 114 [.val (GCode.enc false c1), .val (vi n2), .val (vb has3)] [vb r0] [] := by
  refine ok_of_body (fn := Tryd.f114) Tryd.func114 rfl (by simp [Tryd.f114]) fun C hN hP => ?_
  have hPB : ∀ l, pinK [] l = true → pinB C.pin l = true := pinB_of (by rw [hP]; rfl)
  have hN' : C.N = 16 := hN
  clear hN
  unfold impl_isPlace at h
  refine SWp.seqR rfl (hPB _ rfl) fun K hK => ?_
  iterate 2 (refine wps_cons rfl fun K hK => ?_; simp [hN']; refine hK _ ?_; clear hK)
  refine wps_nil (hK _ ?_); clear hK
  refine SWp.seq ?_
  refine SWp.seqR rfl (hPB _ rfl) fun K hK => ?_
  refine wps_cons rfl fun K hK => ?_; simp [hN']; refine hK _ ?_; clear hK
  refine wps_nil (hK _ ?_); clear hK
  rcases ite_or h with ⟨hb4, h⟩ | ⟨hb5, h⟩
  · refine SWp.condT' (b := has3) (by simp) hb4 ?_
    refine SWp.seqR rfl (hPB _ rfl) fun K hK => ?_
    iterate 5 (refine wps_cons rfl fun K hK => ?_; simp [hN']; refine hK _ ?_; clear hK)
    obtain ⟨r6, hc7, h⟩ := bind_some h
    refine wps_call [(.take, .tmp 8), (.take, .const (.int .i64 0)), (.take, .tmp 12)] rfl rfl ent66 (impl_in_ok _ _ _ hc7) fun K hK => ?_; simp [hN']; refine hK _ ?_; clear hK
    refine wps_cons rfl fun K hK => ?_; simp [hN']; refine hK _ ?_; clear hK
    refine wps_nil (hK _ ?_); clear hK
    cases h
    refine SWp.ret ?_
    simp [thenS, inBlockS, res114]
  · refine SWp.condF' (b := has3) (by simp) hb5 ?_
    refine SWp.skip ?_
    show SWp E C _ _ _
    refine SWp.seqR rfl (hPB _ rfl) fun K hK => ?_
    iterate 3 (refine wps_cons rfl fun K hK => ?_; simp [hN']; refine hK _ ?_; clear hK)
    refine wps_nil (hK _ ?_); clear hK
    cases h
    refine SWp.ret ?_
    simp [thenS, inBlockS, res114]
end Go.Proofs.T
set_option linter.unusedVariables false
set_option linter.unusedSimpArgs false
set_option maxHeartbeats 1000000
namespace Go.Proofs.T
open Go.OM
theorem res115 : Tryd.f115.results.toList = [.tmp 2] := rfl
theorem ent115 : Enters E.P 115 := enters_of Tryd.func115 (by simp [Tryd.f115]) rfl
theorem impl_hasA_ok (op1 : Int) {r0 : Bool} (h : impl_hasA op1 = some r0) : Ok E 115 [.val (vi op1)] [vb r0] [] := by
  refine ok_of_body (fn := Tryd.f115) Tryd.func115 rfl (by simp [Tryd.f115]) fun C hN hP => ?_
  have hPB : ∀ l, pinK [] l = true → pinB C.pin l = true := pinB_of (by rw [hP]; rfl)
  have hN' : C.N = 13 := hN
  clear hN
  unfold impl_hasA at h
  refine SWp.seqR rfl (hPB _ rfl) fun K hK => ?_
  refine wps_cons rfl fun K hK => ?_; simp [hN']; refine hK _ ?_; clear hK
  refine wps_nil (hK _ ?_); clear hK
  obtain ⟨v10, hj2, h⟩ := bind_some h
  refine SWp.seqRC rfl (hPB _ rfl) [2] [] (fun _ : Unit => ⟨[(2, .t (vb v10))], []⟩) (fun _ => True) (fun _ _ => ?_) fun K3 hK3 => ?_
  rotate_left
  · refine wps_cons rfl fun K hK => ?_; simp [hN']; refine hK _ ?_; clear hK
    obtain ⟨r4, hc5, hj2⟩ := bind_some hj2
    refine wps_call [(.take, .tmp 3), (.take, .const (.int .i64 1)), (.take, .const (.int .i64 17))] rfl rfl ent66 (impl_in_ok _ _ _ hc5) fun K hK => ?_; simp [hN']; refine hK _ ?_; clear hK
    refine wps_cons rfl fun K hK => ?_; simp [hN']; refine hK _ ?_; clear hK
    rcases ite_or hj2 with ⟨hb6, hj2⟩ | ⟨hb7, hj2⟩
    · have hb6s := hb6
      try simp at hb6s
      iterate 2 (refine wps_off fun K hK => ?_; simp [hN', hb6, hb6s]; refine hK _ ?_; clear hK)
      iterate 2 (refine wps_cons rfl fun K hK => ?_; simp [hN', hb6, hb6s]; refine hK _ ?_; clear hK)
      iterate 2 (refine wps_off fun K hK => ?_; simp [hN', hb6, hb6s]; refine hK _ ?_; clear hK)
      iterate 2 (refine wps_cons rfl fun K hK => ?_; simp [hN', hb6, hb6s]; refine hK _ ?_; clear hK)
      refine wps_nil ?_
      cases hj2
      exact hK3 _ () [] trivial (by simp [hN', hb6, hb6s])
    · have hb7s := hb7
      try simp at hb7s
      iterate 4 (refine wps_cons rfl fun K hK => ?_; simp [hN', hb7, hb7s]; refine hK _ ?_; clear hK)
      rcases ite_or hj2 with ⟨hb8, hj2⟩ | ⟨hb9, hj2⟩
      · have hb8s := hb8
        try simp at hb8s
        iterate 2 (refine wps_off fun K hK => ?_; simp [hN', hb7, hb7s, hb8, hb8s]; refine hK _ ?_; clear hK)
        iterate 2 (refine wps_cons rfl fun K hK => ?_; simp [hN', hb7, hb7s, hb8, hb8s]; refine hK _ ?_; clear hK)
        refine wps_nil ?_
        cases hj2
        exact hK3 _ () [] trivial (by simp [hN', hb7, hb7s, hb8, hb8s])
      · have hb9s := hb9
        try simp at hb9s
        iterate 4 (refine wps_cons rfl fun K hK => ?_; simp [hN', hb7, hb7s, hb9, hb9s]; refine hK _ ?_; clear hK)
        refine wps_nil ?_
        cases hj2
        exact hK3 _ () [] trivial (by simp [hN', hb7, hb7s, hb9, hb9s])
  cases h
  refine SWp.ret ?_
  simp [thenS, inBlockS, res115]
end Go.Proofs.T
set_option linter.unusedVariables false
set_option linter.unusedSimpArgs false
set_option maxHeartbeats 1000000
namespace Go.Proofs.T
open Go.OM
theorem res116 : Tryd.f116.results.toList = [.tmp 2] := rfl
theorem ent116 : Enters E.P 116 := enters_of Tryd.func116 (by simp [Tryd.f116]) rfl
theorem impl_hasB_ok (op1 : Int) {r0 : Bool} (h : impl_hasB op1 = some r0) : Ok E 116 [.val (vi op1)] [vb r0] [] := by
  refine ok_of_body (fn := Tryd.f116) Tryd.func116 rfl (by simp [Tryd.f116]) fun C hN hP => ?_
  have hPB : ∀ l, pinK [] l = true → pinB C.pin l = true := pinB_of (by rw [hP]; rfl)
  have hN' : C.N = 17 := hN
  clear hN
  unfold impl_hasB at h
  refine SWp.seqR rfl (hPB _ rfl) fun K hK => ?_
  refine wps_cons rfl fun K hK => ?_; simp [hN']; refine hK _ ?_; clear hK
  refine wps_nil (hK _ ?_); clear hK
  obtain ⟨v14, hj2, h⟩ := bind_some h
  refine SWp.seqRC rfl (hPB _ rfl) [2] [] (fun _ : Unit => ⟨[(2, .t (vb v14))], []⟩) (fun _ => True) (fun _ _ => ?_) fun K3 hK3 => ?_
  rotate_left
  · refine wps_cons rfl fun K hK => ?_; simp [hN']; refine hK _ ?_; clear hK
    obtain ⟨r4, hc5, hj2⟩ := bind_some hj2
    refine wps_call [(.take, .tmp 3), (.take, .const (.int .i64 2)), (.take, .const (.int .i64 7))] rfl rfl ent66 (impl_in_ok _ _ _ hc5) fun K hK => ?_; simp [hN']; refine hK _ ?_; clear hK
    refine wps_cons rfl fun K hK => ?_; simp [hN']; refine hK _ ?_; clear hK
    rcases ite_or hj2 with ⟨hb6, hj2⟩ | ⟨hb7, hj2⟩
    · have hb6s := hb6
      try simp at hb6s
      iterate 2 (refine wps_off fun K hK => ?_; simp [hN', hb6, hb6s]; refine hK _ ?_; clear hK)
      iterate 2 (refine wps_cons rfl fun K hK => ?_; simp [hN', hb6, hb6s]; refine hK _ ?_; clear hK)
      iterate 2 (refine wps_off fun K hK => ?_; simp [hN', hb6, hb6s]; refine hK _ ?_; clear hK)
      iterate 2 (refine wps_cons rfl fun K hK => ?_; simp [hN', hb6, hb6s]; refine hK _ ?_; clear hK)
      iterate 2 (refine wps_off fun K hK => ?_; simp [hN', hb6, hb6s]; refine hK _ ?_; clear hK)
      iterate 2 (refine wps_cons rfl fun K hK => ?_; simp [hN', hb6, hb6s]; refine hK _ ?_; clear hK)
      refine wps_nil ?_
      cases hj2
      exact hK3 _ () [] trivial (by simp [hN', hb6, hb6s])
    · have hb7s := hb7
      try simp at hb7s
      refine wps_cons rfl fun K hK => ?_; simp [hN', hb7, hb7s]; refine hK _ ?_; clear hK
      obtain ⟨r8, hc9, hj2⟩ := bind_some hj2
      refine wps_call [(.take, .tmp 6), (.take, .const (.int .i64 9)), (.take, .const (.int .i64 12))] rfl rfl ent66 (impl_in_ok _ _ _ hc9) fun K hK => ?_; simp [hN', hb7, hb7s]; refine hK _ ?_; clear hK
      iterate 2 (refine wps_cons rfl fun K hK => ?_; simp [hN', hb7, hb7s]; refine hK _ ?_; clear hK)
      rcases ite_or hj2 with ⟨hb10, hj2⟩ | ⟨hb11, hj2⟩
      · have hb10s := hb10
        try simp at hb10s
        iterate 2 (refine wps_off fun K hK => ?_; simp [hN', hb7, hb7s, hb10, hb10s]; refine hK _ ?_; clear hK)
        iterate 2 (refine wps_cons rfl fun K hK => ?_; simp [hN', hb7, hb7s, hb10, hb10s]; refine hK _ ?_; clear hK)
        iterate 2 (refine wps_off fun K hK => ?_; simp [hN', hb7, hb7s, hb10, hb10s]; refine hK _ ?_; clear hK)
        iterate 2 (refine wps_cons rfl fun K hK => ?_; simp [hN', hb7, hb7s, hb10, hb10s]; refine hK _ ?_; clear hK)
        refine wps_nil ?_
        cases hj2
        exact hK3 _ () [] trivial (by simp [hN', hb7, hb7s, hb10, hb10s])
      · have hb11s := hb11
        try simp at hb11s
        iterate 4 (refine wps_cons rfl fun K hK => ?_; simp [hN', hb7, hb7s, hb11, hb11s]; refine hK _ ?_; clear hK)
        rcases ite_or hj2 with ⟨hb12, hj2⟩ | ⟨hb13, hj2⟩
        · have hb12s := hb12
          try simp at hb12s
          iterate 2 (refine wps_off fun K hK => ?_; simp [hN', hb7, hb7s, hb11, hb11s, hb12, hb12s]; refine hK _ ?_; clear hK)
          iterate 2 (refine wps_cons rfl fun K hK => ?_; simp [hN', hb7, hb7s, hb11, hb11s, hb12, hb12s]; refine hK _ ?_; clear hK)
          refine wps_nil ?_
          cases hj2
          exact hK3 _ () [] trivial (by simp [hN', hb7, hb7s, hb11, hb11s, hb12, hb12s])
        · have hb13s := hb13
          try simp at hb13s
          iterate 4 (refine wps_cons rfl fun K hK => ?_; simp [hN', hb7, hb7s, hb11, hb11s, hb13, hb13s]; refine hK _ ?_; clear hK)
          refine wps_nil ?_
          cases hj2
          exact hK3 _ () [] trivial (by simp [hN', hb7, hb7s, hb11, hb11s, hb13, hb13s])
  cases h
  refine SWp.ret ?_
  simp [thenS, inBlockS, res116]
end Go.Proofs.T
set_option linter.unusedVariables false
set_option linter.unusedSimpArgs false
set_option maxHeartbeats 1000000
namespace Go.Proofs.T
open Go.OM
theorem res117 : Tryd.f117.results.toList = [.tmp 2] := rfl
theorem ent117 : Enters E.P 117 := enters_of Tryd.func117 (by simp [Tryd.f117]) rfl
theorem impl_hasC_ok (op1 : Int) {r0 : Bool} (h : impl_hasC op1 = some r0) : Ok E 117 [.val (vi op1)] [vb r0] [] := by
  refine ok_of_body (fn := Tryd.f117) Tryd.func117 rfl (by simp [Tryd.f117]) fun C hN hP => ?_
  have hPB : ∀ l, pinK [] l = true → pinB C.pin l = true := pinB_of (by rw [hP]; rfl)
  have hN' : C.N = 5 := hN
  clear hN
  unfold impl_hasC at h
  refine SWp.seqR rfl (hPB _ rfl) fun K hK => ?_
  refine wps_cons rfl fun K hK => ?_; simp [hN']; refine hK _ ?_; clear hK
  refine wps_nil (hK _ ?_); clear hK
  refine SWp.seqR rfl (hPB _ rfl) fun K hK => ?_
  refine wps_cons rfl fun K hK => ?_; simp [hN']; refine hK _ ?_; clear hK
  obtain ⟨r2, hc3, h⟩ := bind_some h
  refine wps_call [(.take, .tmp 3), (.take, .const (.int .i64 10)), (.take, .const (.int .i64 12))] rfl rfl ent66 (impl_in_ok _ _ _ hc3) fun K hK => ?_; simp [hN']; refine hK _ ?_; clear hK
  refine wps_cons rfl fun K hK => ?_; simp [hN']; refine hK _ ?_; clear hK
  refine wps_nil (hK _ ?_); clear hK
  cases h
  refine SWp.ret ?_
  simp [thenS, inBlockS, res117]
end Go.Proofs.T
