import Derived.Test.YtchcogjfmbfccaaDoorTB
import Derived.KernelRfl
set_option linter.unusedVariables false
set_option linter.unusedSimpArgs false
set_option maxHeartbeats 8000000
namespace Go.Proofs.T
open Go.OM
theorem res87 : Tryd.f87.results.toList = [.tmp 4] := rfl
theorem ent87 : Enters E.P 87 := enters_of Tryd.func87 (by simp [Tryd.f87]) rfl
theorem impl_WordOk_ok (c1 : GCode) (x2 : GIns) {r0 : Bool} (h : impl_WordOk c1 x2 = some r0) : Ok E 87 [.val (GCode.enc false c1), .val (GIns.enc false x2)] [vb r0] [] := by
  refine ok_of_body (fn := Tryd.f87) Tryd.func87 rfl (by simp [Tryd.f87]) fun C hN hP => ?_
  have hPB : ∀ l, pinK [] l = true → pinB C.pin l = true := pinB_of (by rw [hP]; rfl)
  have hN' : C.N = 107 := hN
  clear hN
  unfold impl_WordOk at h
  refine SWp.seqR rfl (hPB _ rfl) fun K hK => ?_
  iterate 3 (refine wps_cons rfl fun K hK => ?_; simp [hN']; refine hK _ ?_; clear hK)
  refine wps_nil (hK _ ?_); clear hK
  refine SWp.seq ?_
  refine SWp.seqR rfl (hPB _ rfl) fun K hK => ?_
  iterate 2 (refine wps_cons rfl fun K hK => ?_; simp [hN']; refine hK _ ?_; clear hK)
  obtain ⟨r3, hc4, h⟩ := bind_some h
  refine wps_call [(.take, .tmp 10), (.take, .const (.int .i64 1)), (.take, .const (.int .i64 20))] rfl rfl ent66 (impl_in_ok _ _ _ hc4) fun K hK => ?_; simp [hN']; refine hK _ ?_; clear hK
  refine wps_cons rfl fun K hK => ?_; simp [hN']; refine hK _ ?_; clear hK
  refine wps_nil (hK _ ?_); clear hK
  rcases ite_or h with ⟨hb5, h⟩ | ⟨hb6, h⟩
  · refine SWp.condT' (b := !r3) (by simp) hb5 ?_
    refine SWp.seqR rfl (hPB _ rfl) fun K hK => ?_
    refine wps_cons rfl fun K hK => ?_; simp [hN']; refine hK _ ?_; clear hK
    refine wps_nil (hK _ ?_); clear hK
    cases h
    refine SWp.ret ?_
    simp [thenS, inBlockS, res87]
  · refine SWp.condF' (b := !r3) (by simp) hb6 ?_
    refine SWp.skip ?_
    show SWp E C _ _ _
    obtain ⟨none13, hj7, h⟩ := bind_some h
    refine SWp.seqRC rfl (hPB _ rfl) [2, 3, 5] [2, 3] (fun _ : Unit => ⟨[(2, .ref (.box 2) 0 []), (3, .ref (.box 3) 0 []), (5, .t (vb none13))], [(2, [vs c1.Name, vi c1.Params, .sl false 1 (List.map vi c1.Locals), .sl false 7 (List.map (GIns.enc false) c1.Words)]), (3, [vi x2.Op, vi x2.A, vi x2.B, vi x2.C, vi x2.Num, vs x2.Name, .sl false 1 (List.map vi x2.Args)])]⟩) (fun _ => True) (fun _ _ => ?_) fun K8 hK8 => ?_
    rotate_left
    · refine wps_cons rfl fun K hK => ?_; simp [hN']; refine hK _ ?_; clear hK
      iterate 3 (refine wps_cons rfl fun K hK => ?_; simp [hN']; refine hK _ ?_; clear hK)
      rcases ite_or hj7 with ⟨hb9, hj7⟩ | ⟨hb10, hj7⟩
      · have hb9s := hb9
        try simp at hb9s
        iterate 3 (refine wps_off fun K hK => ?_; simp [hN', hb9, hb9s]; refine hK _ ?_; clear hK)
        iterate 7 (refine wps_cons rfl fun K hK => ?_; simp [hN', hb9, hb9s]; refine hK _ ?_; clear hK)
        refine wps_nil ?_
        cases hj7
        exact hK8 _ () [] trivial (by simp [hN', hb9, hb9s])
      · have hb10s := hb10
        try simp at hb10s
        iterate 5 (refine wps_cons rfl fun K hK => ?_; simp [hN', hb10, hb10s]; refine hK _ ?_; clear hK)
        rcases ite_or hj7 with ⟨hb11, hj7⟩ | ⟨hb12, hj7⟩
        · have hb11s := hb11
          try simp at hb11s
          iterate 5 (refine wps_cons rfl fun K hK => ?_; simp [hN', hb10, hb10s, hb11, hb11s]; refine hK _ ?_; clear hK)
          refine wps_nil ?_
          cases hj7
          exact hK8 _ () [] trivial (by simp [hN', hb10, hb10s, hb11, hb11s])
        · have hb12s := hb12
          try simp at hb12s
          iterate 3 (refine wps_off fun K hK => ?_; simp [hN', hb10, hb10s, hb12, hb12s]; refine hK _ ?_; clear hK)
          iterate 2 (refine wps_cons rfl fun K hK => ?_; simp [hN', hb10, hb10s, hb12, hb12s]; refine hK _ ?_; clear hK)
          refine wps_nil ?_
          cases hj7
          exact hK8 _ () [] trivial (by simp [hN', hb10, hb10s, hb12, hb12s])
    refine SWp.seq ?_
    obtain ⟨v44, hj14, h⟩ := bind_some h
    refine SWp.seqC [2, 3, 57] [2, 3] (fun _ : Unit => ⟨[(2, .ref (.box 2) 0 []), (3, .ref (.box 3) 0 []), (57, .t (vb v44))], [(2, [vs c1.Name, vi c1.Params, .sl false 1 (List.map vi c1.Locals), .sl false 7 (List.map (GIns.enc false) c1.Words)]), (3, [vi x2.Op, vi x2.A, vi x2.B, vi x2.C, vi x2.Num, vs x2.Name, .sl false 1 (List.map vi x2.Args)])]⟩) (fun _ => True) (fun _ _ => ?_) fun K15 hK15 => ?_
    rotate_left
    · rcases ite_or hj14 with ⟨hb16, hj14⟩ | ⟨hb17, hj14⟩
      · have hb16s := hb16
        try simp at hb16s
        obtain ⟨r18, hc19, hj14⟩ := bind_some hj14
        obtain ⟨r20, hc21, hj14⟩ := bind_some hj14
        rcases ite_or hj14 with ⟨hb22, hj14⟩ | ⟨hb23, hj14⟩
        · have hb22s := hb22
          try simp at hb22s
          refine SWp.drawT rfl (hPB _ rfl) [(26, .t (vb none13)), (27, .t (vb (!none13))), (28, .t (vb (!none13))), (29, .t (GCode.enc false c1)), (30, .ref (.box 3) 1 []), (31, .t (vi x2.A)), (32, .ref (.box 3) 0 []), (33, .t (vi x2.Op)), (34, .t (vb r18)), (35, .t (vb r20)), (36, .t (vb (!r20))), (37, .t (vb (!r20))), (38, .t (vb (!r20))), (39, .tup []), (40, .tup []), (41, .tup []), (42, .tup []), (43, .tup []), (44, .tup []), (45, .tup []), (46, .tup []), (47, .t (vb true)), (48, .t (vb true)), (49, .tup []), (50, .tup []), (51, .tup []), (52, .tup []), (53, .tup []), (54, .tup [])] [[], [0], [0, 1], [0, 1, 2], [0, 1, 2], [0, 1, 2, 4], [0, 1, 2], [0, 1, 2, 6], [0, 1, 2, 6, 7], [0, 1, 2, 3, 4, 5, 6, 7, 8], [0, 1, 2, 3, 4, 5, 6, 7, 8, 9], [0, 1, 2, 3, 4, 5, 6, 7, 8, 9, 10], [0, 1, 2, 3, 4, 5, 6, 7, 8, 9, 10, 11], [0, 1, 2, 3, 4, 5, 6, 7, 8, 9, 10, 11, 12], [0, 1, 2, 3, 4, 5, 6, 7, 8, 9, 10, 11, 12], [0, 1, 2, 3, 4, 5, 6, 7, 8, 9, 10, 11, 12, 14], [0, 1, 2, 3, 4, 5, 6, 7, 8, 9, 10, 11, 12], [0, 1, 2, 3, 4, 5, 6, 7, 8, 9, 10, 11, 12, 16], [0, 1, 2, 3, 4, 5, 6, 7, 8, 9, 10, 11, 12, 16, 17], [0, 1, 2, 3, 4, 5, 6, 7, 8, 9, 10, 11, 12, 13, 14, 15, 16, 17, 18], [0, 1, 2, 3, 4, 5, 6, 7, 8, 9, 10, 11, 12, 13, 14, 15, 16, 17, 18, 19], [0, 1, 2, 3, 4, 5, 6, 7, 8, 9, 10, 11, 12, 13, 14, 15, 16, 17, 18, 19, 20], [0, 1, 2, 3, 4, 5, 6, 7, 8, 9, 10, 11, 12, 13, 14, 15, 16, 17, 18, 19, 20, 21], [0, 1, 2, 3, 4, 5, 6, 7, 8, 9, 10, 11, 12, 13, 14, 15, 16, 17, 18, 19, 20, 21, 22], [0, 1, 2, 3, 4, 5, 6, 7, 8, 9, 10, 11, 12, 13, 14, 15, 16, 17, 18, 19, 20, 21, 22], [0, 1, 2, 3, 4, 5, 6, 7, 8, 9, 10, 11, 12, 13, 14, 15, 16, 17, 18, 19, 20, 21, 22, 24], [0, 1, 2, 3, 4, 5, 6, 7, 8, 9, 10, 11, 12, 13, 14, 15, 16, 17, 18, 19, 20, 21, 22], [0, 1, 2, 3, 4, 5, 6, 7, 8, 9, 10, 11, 12, 13, 14, 15, 16, 17, 18, 19, 20, 21, 22, 26], [0, 1, 2, 3, 4, 5, 6, 7, 8, 9, 10, 11, 12, 13, 14, 15, 16, 17, 18, 19, 20, 21, 22, 26, 27], [0, 1, 2, 3, 4, 5, 6, 7, 8, 9, 10, 11, 12, 13, 14, 15, 16, 17, 18, 19, 20, 21, 22, 23, 24, 25, 26, 27, 28], [0, 1, 2, 3, 4, 5, 6, 7, 8, 9, 10, 11, 12, 13, 14, 15, 16, 17, 18, 19, 20, 21, 22, 23, 24, 25, 26, 27, 28, 29], [0, 1, 2, 3, 4, 5, 6, 7, 8, 9, 10, 11, 12, 13, 14, 15, 16, 17, 18, 19, 20, 21, 22, 23, 24, 25, 26, 27, 28, 29, 30]] (by simp) (by simp) (by simp [look]) rfl rfl rfl ?_ fun K hK => ?_
          · refine ⟨?_, ?_, ?_, ?_, ?_, ?_, ?_, ?_, ?_, ?_, ?_, ?_, ?_, ?_, ?_, ?_, ?_, ?_, ?_, ?_, ?_, ?_, ?_, ?_, ?_, ?_, ?_, ?_, ?_, trivial⟩
            all_goals (intro τ hbx hb hd hf K hK; try simp [vsAt] at hd; simp [vsAt] at hf; first | (refine wps_cons rfl fun K' hK' => ?_; simp [hN', hbx, hb, hd, hf, hb16, hb16s, hb22, hb22s]; exact hK' _ (wps_nil (hK _ (by simp [vsAt, hbx, hb16, hb16s, hb22, hb22s])))) | (refine wps_call [(.take, .tmp 33)] rfl rfl ent115 (impl_hasA_ok _ hc19) fun K' hK' => ?_; simp [hN', hbx, hb, hd, hf, hb16, hb16s, hb22, hb22s]; exact hK' _ (wps_nil (hK _ (by simp [vsAt, hbx, hb16, hb16s, hb22, hb22s])))) | (refine wps_call [(.take, .tmp 29), (.take, .tmp 31), (.take, .tmp 34)] rfl rfl ent114 (impl_isPlace_ok _ _ _ hc21) fun K' hK' => ?_; simp [hN', hbx, hb, hd, hf, hb16, hb16s, hb22, hb22s]; exact hK' _ (wps_nil (hK _ (by simp [vsAt, hbx, hb16, hb16s, hb22, hb22s])))) | (refine wps_off fun K' hK' => ?_; simp [hN', hbx, hb, hd, hf, hb16, hb16s, hb22, hb22s]; exact hK' _ (wps_nil (hK _ (by simp [vsAt, hbx, hb16, hb16s, hb22, hb22s])))))
          iterate 2 (refine wps_off fun K hK => ?_; simp [hN', hb16, hb16s, hb22, hb22s]; refine hK _ ?_; clear hK)
          refine wps_cons rfl fun K hK => ?_; simp [hN', hb16, hb16s, hb22, hb22s]; refine hK _ ?_; clear hK
          refine wps_nil (hK _ ?_); clear hK
          cases hj14
          exact hK15 _ () [] trivial (by simp [hN', hb16, hb16s, hb22, hb22s])
        · have hb23s := hb23
          try simp at hb23s
          obtain ⟨r24, hc25, hj14⟩ := bind_some hj14
          obtain ⟨r26, hc27, hj14⟩ := bind_some hj14
          rcases ite_or hj14 with ⟨hb28, hj14⟩ | ⟨hb29, hj14⟩
          · have hb28s := hb28
            try simp at hb28s
            refine SWp.drawT rfl (hPB _ rfl) [(26, .t (vb none13)), (27, .t (vb (!none13))), (28, .t (vb (!none13))), (29, .t (GCode.enc false c1)), (30, .ref (.box 3) 1 []), (31, .t (vi x2.A)), (32, .ref (.box 3) 0 []), (33, .t (vi x2.Op)), (34, .t (vb r18)), (35, .t (vb r20)), (36, .t (vb (!r20))), (37, .t (vb (!r20))), (38, .t (vb (!r20))), (39, .t (GCode.enc false c1)), (40, .ref (.box 3) 2 []), (41, .t (vi x2.B)), (42, .ref (.box 3) 0 []), (43, .t (vi x2.Op)), (44, .t (vb r24)), (45, .t (vb r26)), (46, .t (vb (!r26))), (47, .t (vb (!r26))), (48, .t (vb (!r26))), (49, .tup []), (50, .tup []), (51, .tup []), (52, .tup []), (53, .tup []), (54, .tup [])] [[], [0], [0, 1], [0, 1, 2], [0, 1, 2], [0, 1, 2, 4], [0, 1, 2], [0, 1, 2, 6], [0, 1, 2, 6, 7], [0, 1, 2, 3, 4, 5, 6, 7, 8], [0, 1, 2, 3, 4, 5, 6, 7, 8, 9], [0, 1, 2, 3, 4, 5, 6, 7, 8, 9, 10], [0, 1, 2, 3, 4, 5, 6, 7, 8, 9, 10, 11], [0, 1, 2, 3, 4, 5, 6, 7, 8, 9, 10, 11, 12], [0, 1, 2, 3, 4, 5, 6, 7, 8, 9, 10, 11, 12], [0, 1, 2, 3, 4, 5, 6, 7, 8, 9, 10, 11, 12, 14], [0, 1, 2, 3, 4, 5, 6, 7, 8, 9, 10, 11, 12], [0, 1, 2, 3, 4, 5, 6, 7, 8, 9, 10, 11, 12, 16], [0, 1, 2, 3, 4, 5, 6, 7, 8, 9, 10, 11, 12, 16, 17], [0, 1, 2, 3, 4, 5, 6, 7, 8, 9, 10, 11, 12, 13, 14, 15, 16, 17, 18], [0, 1, 2, 3, 4, 5, 6, 7, 8, 9, 10, 11, 12, 13, 14, 15, 16, 17, 18, 19], [0, 1, 2, 3, 4, 5, 6, 7, 8, 9, 10, 11, 12, 13, 14, 15, 16, 17, 18, 19, 20], [0, 1, 2, 3, 4, 5, 6, 7, 8, 9, 10, 11, 12, 13, 14, 15, 16, 17, 18, 19, 20, 21], [0, 1, 2, 3, 4, 5, 6, 7, 8, 9, 10, 11, 12, 13, 14, 15, 16, 17, 18, 19, 20, 21, 22], [0, 1, 2, 3, 4, 5, 6, 7, 8, 9, 10, 11, 12, 13, 14, 15, 16, 17, 18, 19, 20, 21, 22], [0, 1, 2, 3, 4, 5, 6, 7, 8, 9, 10, 11, 12, 13, 14, 15, 16, 17, 18, 19, 20, 21, 22, 24], [0, 1, 2, 3, 4, 5, 6, 7, 8, 9, 10, 11, 12, 13, 14, 15, 16, 17, 18, 19, 20, 21, 22], [0, 1, 2, 3, 4, 5, 6, 7, 8, 9, 10, 11, 12, 13, 14, 15, 16, 17, 18, 19, 20, 21, 22, 26], [0, 1, 2, 3, 4, 5, 6, 7, 8, 9, 10, 11, 12, 13, 14, 15, 16, 17, 18, 19, 20, 21, 22, 26, 27], [0, 1, 2, 3, 4, 5, 6, 7, 8, 9, 10, 11, 12, 13, 14, 15, 16, 17, 18, 19, 20, 21, 22, 23, 24, 25, 26, 27, 28], [0, 1, 2, 3, 4, 5, 6, 7, 8, 9, 10, 11, 12, 13, 14, 15, 16, 17, 18, 19, 20, 21, 22, 23, 24, 25, 26, 27, 28, 29], [0, 1, 2, 3, 4, 5, 6, 7, 8, 9, 10, 11, 12, 13, 14, 15, 16, 17, 18, 19, 20, 21, 22, 23, 24, 25, 26, 27, 28, 29, 30]] (by simp) (by simp) (by simp [look]) rfl rfl rfl ?_ fun K hK => ?_
            · refine ⟨?_, ?_, ?_, ?_, ?_, ?_, ?_, ?_, ?_, ?_, ?_, ?_, ?_, ?_, ?_, ?_, ?_, ?_, ?_, ?_, ?_, ?_, ?_, ?_, ?_, ?_, ?_, ?_, ?_, trivial⟩
              all_goals (intro τ hbx hb hd hf K hK; try simp [vsAt] at hd; simp [vsAt] at hf; first | (refine wps_cons rfl fun K' hK' => ?_; simp [hN', hbx, hb, hd, hf, hb16, hb16s, hb23, hb23s, hb28, hb28s]; exact hK' _ (wps_nil (hK _ (by simp [vsAt, hbx, hb16, hb16s, hb23, hb23s, hb28, hb28s])))) | (refine wps_call [(.take, .tmp 33)] rfl rfl ent115 (impl_hasA_ok _ hc19) fun K' hK' => ?_; simp [hN', hbx, hb, hd, hf, hb16, hb16s, hb23, hb23s, hb28, hb28s]; exact hK' _ (wps_nil (hK _ (by simp [vsAt, hbx, hb16, hb16s, hb23, hb23s, hb28, hb28s])))) | (refine wps_call [(.take, .tmp 29), (.take, .tmp 31), (.take, .tmp 34)] rfl rfl ent114 (impl_isPlace_ok _ _ _ hc21) fun K' hK' => ?_; simp [hN', hbx, hb, hd, hf, hb16, hb16s, hb23, hb23s, hb28, hb28s]; exact hK' _ (wps_nil (hK _ (by simp [vsAt, hbx, hb16, hb16s, hb23, hb23s, hb28, hb28s])))) | (refine wps_call [(.take, .tmp 43)] rfl rfl ent116 (impl_hasB_ok _ hc25) fun K' hK' => ?_; simp [hN', hbx, hb, hd, hf, hb16, hb16s, hb23, hb23s, hb28, hb28s]; exact hK' _ (wps_nil (hK _ (by simp [vsAt, hbx, hb16, hb16s, hb23, hb23s, hb28, hb28s])))) | (refine wps_call [(.take, .tmp 39), (.take, .tmp 41), (.take, .tmp 44)] rfl rfl ent114 (impl_isPlace_ok _ _ _ hc27) fun K' hK' => ?_; simp [hN', hbx, hb, hd, hf, hb16, hb16s, hb23, hb23s, hb28, hb28s]; exact hK' _ (wps_nil (hK _ (by simp [vsAt, hbx, hb16, hb16s, hb23, hb23s, hb28, hb28s])))) | (refine wps_off fun K' hK' => ?_; simp [hN', hbx, hb, hd, hf, hb16, hb16s, hb23, hb23s, hb28, hb28s]; exact hK' _ (wps_nil (hK _ (by simp [vsAt, hbx, hb16, hb16s, hb23, hb23s, hb28, hb28s])))))
            iterate 2 (refine wps_off fun K hK => ?_; simp [hN', hb16, hb16s, hb23, hb23s, hb28, hb28s]; refine hK _ ?_; clear hK)
            refine wps_cons rfl fun K hK => ?_; simp [hN', hb16, hb16s, hb23, hb23s, hb28, hb28s]; refine hK _ ?_; clear hK
            refine wps_nil (hK _ ?_); clear hK
            cases hj14
            exact hK15 _ () [] trivial (by simp [hN', hb16, hb16s, hb23, hb23s, hb28, hb28s])
          · have hb29s := hb29
            try simp at hb29s
            obtain ⟨r30, hc31, hj14⟩ := bind_some hj14
            refine SWp.drawT rfl (hPB _ rfl) [(26, .t (vb none13)), (27, .t (vb (!none13))), (28, .t (vb (!none13))), (29, .t (GCode.enc false c1)), (30, .ref (.box 3) 1 []), (31, .t (vi x2.A)), (32, .ref (.box 3) 0 []), (33, .t (vi x2.Op)), (34, .t (vb r18)), (35, .t (vb r20)), (36, .t (vb (!r20))), (37, .t (vb (!r20))), (38, .t (vb (!r20))), (39, .t (GCode.enc false c1)), (40, .ref (.box 3) 2 []), (41, .t (vi x2.B)), (42, .ref (.box 3) 0 []), (43, .t (vi x2.Op)), (44, .t (vb r24)), (45, .t (vb r26)), (46, .t (vb (!r26))), (47, .t (vb (!r26))), (48, .t (vb (!r26))), (49, .t (GCode.enc false c1)), (50, .ref (.box 3) 3 []), (51, .t (vi x2.C)), (52, .ref (.box 3) 0 []), (53, .t (vi x2.Op)), (54, .t (vb r30))] [[], [0], [0, 1], [0, 1, 2], [0, 1, 2], [0, 1, 2, 4], [0, 1, 2], [0, 1, 2, 6], [0, 1, 2, 6, 7], [0, 1, 2, 3, 4, 5, 6, 7, 8], [0, 1, 2, 3, 4, 5, 6, 7, 8, 9], [0, 1, 2, 3, 4, 5, 6, 7, 8, 9, 10], [0, 1, 2, 3, 4, 5, 6, 7, 8, 9, 10, 11], [0, 1, 2, 3, 4, 5, 6, 7, 8, 9, 10, 11, 12], [0, 1, 2, 3, 4, 5, 6, 7, 8, 9, 10, 11, 12], [0, 1, 2, 3, 4, 5, 6, 7, 8, 9, 10, 11, 12, 14], [0, 1, 2, 3, 4, 5, 6, 7, 8, 9, 10, 11, 12], [0, 1, 2, 3, 4, 5, 6, 7, 8, 9, 10, 11, 12, 16], [0, 1, 2, 3, 4, 5, 6, 7, 8, 9, 10, 11, 12, 16, 17], [0, 1, 2, 3, 4, 5, 6, 7, 8, 9, 10, 11, 12, 13, 14, 15, 16, 17, 18], [0, 1, 2, 3, 4, 5, 6, 7, 8, 9, 10, 11, 12, 13, 14, 15, 16, 17, 18, 19], [0, 1, 2, 3, 4, 5, 6, 7, 8, 9, 10, 11, 12, 13, 14, 15, 16, 17, 18, 19, 20], [0, 1, 2, 3, 4, 5, 6, 7, 8, 9, 10, 11, 12, 13, 14, 15, 16, 17, 18, 19, 20, 21], [0, 1, 2, 3, 4, 5, 6, 7, 8, 9, 10, 11, 12, 13, 14, 15, 16, 17, 18, 19, 20, 21, 22], [0, 1, 2, 3, 4, 5, 6, 7, 8, 9, 10, 11, 12, 13, 14, 15, 16, 17, 18, 19, 20, 21, 22], [0, 1, 2, 3, 4, 5, 6, 7, 8, 9, 10, 11, 12, 13, 14, 15, 16, 17, 18, 19, 20, 21, 22, 24], [0, 1, 2, 3, 4, 5, 6, 7, 8, 9, 10, 11, 12, 13, 14, 15, 16, 17, 18, 19, 20, 21, 22], [0, 1, 2, 3, 4, 5, 6, 7, 8, 9, 10, 11, 12, 13, 14, 15, 16, 17, 18, 19, 20, 21, 22, 26], [0, 1, 2, 3, 4, 5, 6, 7, 8, 9, 10, 11, 12, 13, 14, 15, 16, 17, 18, 19, 20, 21, 22, 26, 27], [0, 1, 2, 3, 4, 5, 6, 7, 8, 9, 10, 11, 12, 13, 14, 15, 16, 17, 18, 19, 20, 21, 22, 23, 24, 25, 26, 27, 28], [0, 1, 2, 3, 4, 5, 6, 7, 8, 9, 10, 11, 12, 13, 14, 15, 16, 17, 18, 19, 20, 21, 22, 23, 24, 25, 26, 27, 28, 29], [0, 1, 2, 3, 4, 5, 6, 7, 8, 9, 10, 11, 12, 13, 14, 15, 16, 17, 18, 19, 20, 21, 22, 23, 24, 25, 26, 27, 28, 29, 30]] (by simp) (by simp) (by simp [look]) rfl rfl rfl ?_ fun K hK => ?_
            · refine ⟨?_, ?_, ?_, ?_, ?_, ?_, ?_, ?_, ?_, ?_, ?_, ?_, ?_, ?_, ?_, ?_, ?_, ?_, ?_, ?_, ?_, ?_, ?_, ?_, ?_, ?_, ?_, ?_, ?_, trivial⟩
              all_goals (intro τ hbx hb hd hf K hK; try simp [vsAt] at hd; simp [vsAt] at hf; first | (refine wps_cons rfl fun K' hK' => ?_; simp [hN', hbx, hb, hd, hf, hb16, hb16s, hb23, hb23s, hb29, hb29s]; exact hK' _ (wps_nil (hK _ (by simp [vsAt, hbx, hb16, hb16s, hb23, hb23s, hb29, hb29s])))) | (refine wps_call [(.take, .tmp 33)] rfl rfl ent115 (impl_hasA_ok _ hc19) fun K' hK' => ?_; simp [hN', hbx, hb, hd, hf, hb16, hb16s, hb23, hb23s, hb29, hb29s]; exact hK' _ (wps_nil (hK _ (by simp [vsAt, hbx, hb16, hb16s, hb23, hb23s, hb29, hb29s])))) | (refine wps_call [(.take, .tmp 29), (.take, .tmp 31), (.take, .tmp 34)] rfl rfl ent114 (impl_isPlace_ok _ _ _ hc21) fun K' hK' => ?_; simp [hN', hbx, hb, hd, hf, hb16, hb16s, hb23, hb23s, hb29, hb29s]; exact hK' _ (wps_nil (hK _ (by simp [vsAt, hbx, hb16, hb16s, hb23, hb23s, hb29, hb29s])))) | (refine wps_call [(.take, .tmp 43)] rfl rfl ent116 (impl_hasB_ok _ hc25) fun K' hK' => ?_; simp [hN', hbx, hb, hd, hf, hb16, hb16s, hb23, hb23s, hb29, hb29s]; exact hK' _ (wps_nil (hK _ (by simp [vsAt, hbx, hb16, hb16s, hb23, hb23s, hb29, hb29s])))) | (refine wps_call [(.take, .tmp 39), (.take, .tmp 41), (.take, .tmp 44)] rfl rfl ent114 (impl_isPlace_ok _ _ _ hc27) fun K' hK' => ?_; simp [hN', hbx, hb, hd, hf, hb16, hb16s, hb23, hb23s, hb29, hb29s]; exact hK' _ (wps_nil (hK _ (by simp [vsAt, hbx, hb16, hb16s, hb23, hb23s, hb29, hb29s])))) | (refine wps_call [(.take, .tmp 53)] rfl rfl ent117 (impl_hasC_ok _ hc31) fun K' hK' => ?_; simp [hN', hbx, hb, hd, hf, hb16, hb16s, hb23, hb23s, hb29, hb29s]; exact hK' _ (wps_nil (hK _ (by simp [vsAt, hbx, hb16, hb16s, hb23, hb23s, hb29, hb29s])))))
            obtain ⟨r32, hc33, hj14⟩ := bind_some hj14
            refine wps_call [(.take, .tmp 49), (.take, .tmp 51), (.take, .tmp 54)] rfl rfl ent114 (impl_isPlace_ok _ _ _ hc33) fun K hK => ?_; simp [hN', hb16, hb16s, hb23, hb23s, hb29, hb29s]; refine hK _ ?_; clear hK
            iterate 2 (refine wps_cons rfl fun K hK => ?_; simp [hN', hb16, hb16s, hb23, hb23s, hb29, hb29s]; refine hK _ ?_; clear hK)
            refine wps_nil (hK _ ?_); clear hK
            cases hj14
            exact hK15 _ () [] trivial (by simp [hN', hb16, hb16s, hb23, hb23s, hb29, hb29s])
      · have hb17s := hb17
        try simp at hb17s
        obtain ⟨r34, hc35, hj14⟩ := bind_some hj14
        obtain ⟨r36, hc37, hj14⟩ := bind_some hj14
        rcases ite_or hj14 with ⟨hb38, hj14⟩ | ⟨hb39, hj14⟩
        · have hb38s := hb38
          try simp at hb38s
          refine SWp.drawT rfl (hPB _ rfl) [(26, .t (vb none13)), (27, .t (vb (!none13))), (28, .t (vb (!none13))), (29, .tup []), (30, .tup []), (31, .tup []), (32, .tup []), (33, .tup []), (34, .tup []), (35, .tup []), (36, .tup []), (37, .t (vb false)), (38, .t (vb false)), (39, .t (GCode.enc false c1)), (40, .ref (.box 3) 2 []), (41, .t (vi x2.B)), (42, .ref (.box 3) 0 []), (43, .t (vi x2.Op)), (44, .t (vb r34)), (45, .t (vb r36)), (46, .t (vb (!r36))), (47, .t (vb (!r36))), (48, .t (vb (!r36))), (49, .tup []), (50, .tup []), (51, .tup []), (52, .tup []), (53, .tup []), (54, .tup [])] [[], [0], [0, 1], [0, 1, 2], [0, 1, 2], [0, 1, 2, 4], [0, 1, 2], [0, 1, 2, 6], [0, 1, 2, 6, 7], [0, 1, 2, 3, 4, 5, 6, 7, 8], [0, 1, 2, 3, 4, 5, 6, 7, 8, 9], [0, 1, 2, 3, 4, 5, 6, 7, 8, 9, 10], [0, 1, 2, 3, 4, 5, 6, 7, 8, 9, 10, 11], [0, 1, 2, 3, 4, 5, 6, 7, 8, 9, 10, 11, 12], [0, 1, 2, 3, 4, 5, 6, 7, 8, 9, 10, 11, 12], [0, 1, 2, 3, 4, 5, 6, 7, 8, 9, 10, 11, 12, 14], [0, 1, 2, 3, 4, 5, 6, 7, 8, 9, 10, 11, 12], [0, 1, 2, 3, 4, 5, 6, 7, 8, 9, 10, 11, 12, 16], [0, 1, 2, 3, 4, 5, 6, 7, 8, 9, 10, 11, 12, 16, 17], [0, 1, 2, 3, 4, 5, 6, 7, 8, 9, 10, 11, 12, 13, 14, 15, 16, 17, 18], [0, 1, 2, 3, 4, 5, 6, 7, 8, 9, 10, 11, 12, 13, 14, 15, 16, 17, 18, 19], [0, 1, 2, 3, 4, 5, 6, 7, 8, 9, 10, 11, 12, 13, 14, 15, 16, 17, 18, 19, 20], [0, 1, 2, 3, 4, 5, 6, 7, 8, 9, 10, 11, 12, 13, 14, 15, 16, 17, 18, 19, 20, 21], [0, 1, 2, 3, 4, 5, 6, 7, 8, 9, 10, 11, 12, 13, 14, 15, 16, 17, 18, 19, 20, 21, 22], [0, 1, 2, 3, 4, 5, 6, 7, 8, 9, 10, 11, 12, 13, 14, 15, 16, 17, 18, 19, 20, 21, 22], [0, 1, 2, 3, 4, 5, 6, 7, 8, 9, 10, 11, 12, 13, 14, 15, 16, 17, 18, 19, 20, 21, 22, 24], [0, 1, 2, 3, 4, 5, 6, 7, 8, 9, 10, 11, 12, 13, 14, 15, 16, 17, 18, 19, 20, 21, 22], [0, 1, 2, 3, 4, 5, 6, 7, 8, 9, 10, 11, 12, 13, 14, 15, 16, 17, 18, 19, 20, 21, 22, 26], [0, 1, 2, 3, 4, 5, 6, 7, 8, 9, 10, 11, 12, 13, 14, 15, 16, 17, 18, 19, 20, 21, 22, 26, 27], [0, 1, 2, 3, 4, 5, 6, 7, 8, 9, 10, 11, 12, 13, 14, 15, 16, 17, 18, 19, 20, 21, 22, 23, 24, 25, 26, 27, 28], [0, 1, 2, 3, 4, 5, 6, 7, 8, 9, 10, 11, 12, 13, 14, 15, 16, 17, 18, 19, 20, 21, 22, 23, 24, 25, 26, 27, 28, 29], [0, 1, 2, 3, 4, 5, 6, 7, 8, 9, 10, 11, 12, 13, 14, 15, 16, 17, 18, 19, 20, 21, 22, 23, 24, 25, 26, 27, 28, 29, 30]] (by simp) (by simp) (by simp [look]) rfl rfl rfl ?_ fun K hK => ?_
          · refine ⟨?_, ?_, ?_, ?_, ?_, ?_, ?_, ?_, ?_, ?_, ?_, ?_, ?_, ?_, ?_, ?_, ?_, ?_, ?_, ?_, ?_, ?_, ?_, ?_, ?_, ?_, ?_, ?_, ?_, trivial⟩
            all_goals (intro τ hbx hb hd hf K hK; try simp [vsAt] at hd; simp [vsAt] at hf; first | (refine wps_cons rfl fun K' hK' => ?_; simp [hN', hbx, hb, hd, hf, hb17, hb17s, hb38, hb38s]; exact hK' _ (wps_nil (hK _ (by simp [vsAt, hbx, hb17, hb17s, hb38, hb38s])))) | (refine wps_off fun K' hK' => ?_; simp [hN', hbx, hb, hd, hf, hb17, hb17s, hb38, hb38s]; exact hK' _ (wps_nil (hK _ (by simp [vsAt, hbx, hb17, hb17s, hb38, hb38s])))) | (refine wps_call [(.take, .tmp 43)] rfl rfl ent116 (impl_hasB_ok _ hc35) fun K' hK' => ?_; simp [hN', hbx, hb, hd, hf, hb17, hb17s, hb38, hb38s]; exact hK' _ (wps_nil (hK _ (by simp [vsAt, hbx, hb17, hb17s, hb38, hb38s])))) | (refine wps_call [(.take, .tmp 39), (.take, .tmp 41), (.take, .tmp 44)] rfl rfl ent114 (impl_isPlace_ok _ _ _ hc37) fun K' hK' => ?_; simp [hN', hbx, hb, hd, hf, hb17, hb17s, hb38, hb38s]; exact hK' _ (wps_nil (hK _ (by simp [vsAt, hbx, hb17, hb17s, hb38, hb38s])))))
          iterate 2 (refine wps_off fun K hK => ?_; simp [hN', hb17, hb17s, hb38, hb38s]; refine hK _ ?_; clear hK)
          refine wps_cons rfl fun K hK => ?_; simp [hN', hb17, hb17s, hb38, hb38s]; refine hK _ ?_; clear hK
          refine wps_nil (hK _ ?_); clear hK
          cases hj14
          exact hK15 _ () [] trivial (by simp [hN', hb17, hb17s, hb38, hb38s])
        · have hb39s := hb39
          try simp at hb39s
          obtain ⟨r40, hc41, hj14⟩ := bind_some hj14
          refine SWp.drawT rfl (hPB _ rfl) [(26, .t (vb none13)), (27, .t (vb (!none13))), (28, .t (vb (!none13))), (29, .tup []), (30, .tup []), (31, .tup []), (32, .tup []), (33, .tup []), (34, .tup []), (35, .tup []), (36, .tup []), (37, .t (vb false)), (38, .t (vb false)), (39, .t (GCode.enc false c1)), (40, .ref (.box 3) 2 []), (41, .t (vi x2.B)), (42, .ref (.box 3) 0 []), (43, .t (vi x2.Op)), (44, .t (vb r34)), (45, .t (vb r36)), (46, .t (vb (!r36))), (47, .t (vb (!r36))), (48, .t (vb (!r36))), (49, .t (GCode.enc false c1)), (50, .ref (.box 3) 3 []), (51, .t (vi x2.C)), (52, .ref (.box 3) 0 []), (53, .t (vi x2.Op)), (54, .t (vb r40))] [[], [0], [0, 1], [0, 1, 2], [0, 1, 2], [0, 1, 2, 4], [0, 1, 2], [0, 1, 2, 6], [0, 1, 2, 6, 7], [0, 1, 2, 3, 4, 5, 6, 7, 8], [0, 1, 2, 3, 4, 5, 6, 7, 8, 9], [0, 1, 2, 3, 4, 5, 6, 7, 8, 9, 10], [0, 1, 2, 3, 4, 5, 6, 7, 8, 9, 10, 11], [0, 1, 2, 3, 4, 5, 6, 7, 8, 9, 10, 11, 12], [0, 1, 2, 3, 4, 5, 6, 7, 8, 9, 10, 11, 12], [0, 1, 2, 3, 4, 5, 6, 7, 8, 9, 10, 11, 12, 14], [0, 1, 2, 3, 4, 5, 6, 7, 8, 9, 10, 11, 12], [0, 1, 2, 3, 4, 5, 6, 7, 8, 9, 10, 11, 12, 16], [0, 1, 2, 3, 4, 5, 6, 7, 8, 9, 10, 11, 12, 16, 17], [0, 1, 2, 3, 4, 5, 6, 7, 8, 9, 10, 11, 12, 13, 14, 15, 16, 17, 18], [0, 1, 2, 3, 4, 5, 6, 7, 8, 9, 10, 11, 12, 13, 14, 15, 16, 17, 18, 19], [0, 1, 2, 3, 4, 5, 6, 7, 8, 9, 10, 11, 12, 13, 14, 15, 16, 17, 18, 19, 20], [0, 1, 2, 3, 4, 5, 6, 7, 8, 9, 10, 11, 12, 13, 14, 15, 16, 17, 18, 19, 20, 21], [0, 1, 2, 3, 4, 5, 6, 7, 8, 9, 10, 11, 12, 13, 14, 15, 16, 17, 18, 19, 20, 21, 22], [0, 1, 2, 3, 4, 5, 6, 7, 8, 9, 10, 11, 12, 13, 14, 15, 16, 17, 18, 19, 20, 21, 22], [0, 1, 2, 3, 4, 5, 6, 7, 8, 9, 10, 11, 12, 13, 14, 15, 16, 17, 18, 19, 20, 21, 22, 24], [0, 1, 2, 3, 4, 5, 6, 7, 8, 9, 10, 11, 12, 13, 14, 15, 16, 17, 18, 19, 20, 21, 22], [0, 1, 2, 3, 4, 5, 6, 7, 8, 9, 10, 11, 12, 13, 14, 15, 16, 17, 18, 19, 20, 21, 22, 26], [0, 1, 2, 3, 4, 5, 6, 7, 8, 9, 10, 11, 12, 13, 14, 15, 16, 17, 18, 19, 20, 21, 22, 26, 27], [0, 1, 2, 3, 4, 5, 6, 7, 8, 9, 10, 11, 12, 13, 14, 15, 16, 17, 18, 19, 20, 21, 22, 23, 24, 25, 26, 27, 28], [0, 1, 2, 3, 4, 5, 6, 7, 8, 9, 10, 11, 12, 13, 14, 15, 16, 17, 18, 19, 20, 21, 22, 23, 24, 25, 26, 27, 28, 29], [0, 1, 2, 3, 4, 5, 6, 7, 8, 9, 10, 11, 12, 13, 14, 15, 16, 17, 18, 19, 20, 21, 22, 23, 24, 25, 26, 27, 28, 29, 30]] (by simp) (by simp) (by simp [look]) rfl rfl rfl ?_ fun K hK => ?_
          · refine ⟨?_, ?_, ?_, ?_, ?_, ?_, ?_, ?_, ?_, ?_, ?_, ?_, ?_, ?_, ?_, ?_, ?_, ?_, ?_, ?_, ?_, ?_, ?_, ?_, ?_, ?_, ?_, ?_, ?_, trivial⟩
            all_goals (intro τ hbx hb hd hf K hK; try simp [vsAt] at hd; simp [vsAt] at hf; first | (refine wps_cons rfl fun K' hK' => ?_; simp [hN', hbx, hb, hd, hf, hb17, hb17s, hb39, hb39s]; exact hK' _ (wps_nil (hK _ (by simp [vsAt, hbx, hb17, hb17s, hb39, hb39s])))) | (refine wps_off fun K' hK' => ?_; simp [hN', hbx, hb, hd, hf, hb17, hb17s, hb39, hb39s]; exact hK' _ (wps_nil (hK _ (by simp [vsAt, hbx, hb17, hb17s, hb39, hb39s])))) | (refine wps_call [(.take, .tmp 43)] rfl rfl ent116 (impl_hasB_ok _ hc35) fun K' hK' => ?_; simp [hN', hbx, hb, hd, hf, hb17, hb17s, hb39, hb39s]; exact hK' _ (wps_nil (hK _ (by simp [vsAt, hbx, hb17, hb17s, hb39, hb39s])))) | (refine wps_call [(.take, .tmp 39), (.take, .tmp 41), (.take, .tmp 44)] rfl rfl ent114 (impl_isPlace_ok _ _ _ hc37) fun K' hK' => ?_; simp [hN', hbx, hb, hd, hf, hb17, hb17s, hb39, hb39s]; exact hK' _ (wps_nil (hK _ (by simp [vsAt, hbx, hb17, hb17s, hb39, hb39s])))) | (refine wps_call [(.take, .tmp 53)] rfl rfl ent117 (impl_hasC_ok _ hc41) fun K' hK' => ?_; simp [hN', hbx, hb, hd, hf, hb17, hb17s, hb39, hb39s]; exact hK' _ (wps_nil (hK _ (by simp [vsAt, hbx, hb17, hb17s, hb39, hb39s])))))
          obtain ⟨r42, hc43, hj14⟩ := bind_some hj14
          refine wps_call [(.take, .tmp 49), (.take, .tmp 51), (.take, .tmp 54)] rfl rfl ent114 (impl_isPlace_ok _ _ _ hc43) fun K hK => ?_; simp [hN', hb17, hb17s, hb39, hb39s]; refine hK _ ?_; clear hK
          iterate 2 (refine wps_cons rfl fun K hK => ?_; simp [hN', hb17, hb17s, hb39, hb39s]; refine hK _ ?_; clear hK)
          refine wps_nil (hK _ ?_); clear hK
          cases hj14
          exact hK15 _ () [] trivial (by simp [hN', hb17, hb17s, hb39, hb39s])
    rcases ite_or h with ⟨hb45, h⟩ | ⟨hb46, h⟩
    · refine SWp.condT' (b := v44) (by simp) hb45 ?_
      refine SWp.seqR rfl (hPB _ rfl) fun K hK => ?_
      refine wps_cons rfl fun K hK => ?_; simp [hN']; refine hK _ ?_; clear hK
      refine wps_nil (hK _ ?_); clear hK
      cases h
      refine SWp.ret ?_
      simp [thenS, inBlockS, res87]
    · refine SWp.condF' (b := v44) (by simp) hb46 ?_
      refine SWp.skip ?_
      show SWp E C _ _ _
      refine SWp.seqR rfl (hPB _ rfl) fun K hK => ?_
      refine wps_cons rfl fun K hK => ?_; simp [hN']; refine hK _ ?_; clear hK
      refine wps_nil (hK _ ?_); clear hK
      obtain ⟨high60, hj47, h⟩ := bind_some h
      refine SWp.seqC [2, 3, 6] [2, 3] (fun _ : Unit => ⟨[(2, .ref (.box 2) 0 []), (3, .ref (.box 3) 0 []), (6, .t (vi high60))], [(2, [vs c1.Name, vi c1.Params, .sl false 1 (List.map vi c1.Locals), .sl false 7 (List.map (GIns.enc false) c1.Words)]), (3, [vi x2.Op, vi x2.A, vi x2.B, vi x2.C, vi x2.Num, vs x2.Name, .sl false 1 (List.map vi x2.Args)])]⟩) (fun _ => True) (fun _ _ => ?_) fun K48 hK48 => ?_
      rotate_left
      · refine SWp.seqR rfl (hPB _ rfl) fun K hK => ?_
        iterate 2 (refine wps_cons rfl fun K hK => ?_; simp [hN']; refine hK _ ?_; clear hK)
        refine wps_nil (hK _ ?_); clear hK
        refine SWp.block ?_
        refine SWp.seqR rfl (hPB _ rfl) fun K hK => ?_
        iterate 2 (refine wps_cons rfl fun K hK => ?_; simp [hN']; refine hK _ ?_; clear hK)
        refine wps_nil (hK _ ?_); clear hK
        rcases ite_or hj47 with ⟨hb50, hj47⟩ | ⟨hb51, hj47⟩
        · refine SWp.condT' (b := x2.Op == 1) (by simp) hb50 ?_
          refine SWp.reg rfl (hPB _ rfl) fun K hK => ?_
          refine wps_cons rfl fun K hK => ?_; simp [hN']; refine hK _ ?_; clear hK
          refine wps_nil (hK _ ?_); clear hK
          cases hj47
          exact hK48 _ () [] trivial (by simp [hN'])
        · refine SWp.condF' (b := x2.Op == 1) (by simp) hb51 ?_
          obtain ⟨v57, hj52, hj47⟩ := bind_some hj47
          refine SWp.seqC [2, 3, 6, 62] [2, 3] (fun _ : Unit => ⟨[(2, .ref (.box 2) 0 []), (3, .ref (.box 3) 0 []), (6, .t (vi 0)), (62, .t (vb v57))], [(2, [vs c1.Name, vi c1.Params, .sl false 1 (List.map vi c1.Locals), .sl false 7 (List.map (GIns.enc false) c1.Words)]), (3, [vi x2.Op, vi x2.A, vi x2.B, vi x2.C, vi x2.Num, vs x2.Name, .sl false 1 (List.map vi x2.Args)])]⟩) (fun _ => True) (fun _ _ => ?_) fun K53 hK53 => ?_
          rotate_left
          · refine SWp.seqR rfl (hPB _ rfl) fun K hK => ?_
            iterate 2 (refine wps_cons rfl fun K hK => ?_; simp [hN']; refine hK _ ?_; clear hK)
            refine wps_nil (hK _ ?_); clear hK
            rcases ite_or hj52 with ⟨hb55, hj52⟩ | ⟨hb56, hj52⟩
            · refine SWp.condT' (b := x2.Op == 18) (by simp) hb55 ?_
              refine SWp.skip ?_
              cases hj52
              exact hK53 _ () [] trivial (by simp [hN'])
            · refine SWp.condF' (b := x2.Op == 18) (by simp) hb56 ?_
              refine SWp.reg rfl (hPB _ rfl) fun K hK => ?_
              iterate 2 (refine wps_cons rfl fun K hK => ?_; simp [hN']; refine hK _ ?_; clear hK)
              refine wps_nil (hK _ ?_); clear hK
              cases hj52
              exact hK53 _ () [] trivial (by simp [hN'])
          rcases ite_or hj47 with ⟨hb58, hj47⟩ | ⟨hb59, hj47⟩
          · refine SWp.condT' (b := v57) (by simp) hb58 ?_
            refine SWp.reg rfl (hPB _ rfl) fun K hK => ?_
            iterate 5 (refine wps_cons rfl fun K hK => ?_; simp [hN']; refine hK _ ?_; clear hK)
            refine wps_nil (hK _ ?_); clear hK
            cases hj47
            exact hK48 _ () [] trivial (by simp [hN'])
          · refine SWp.condF' (b := v57) (by simp) hb59 ?_
            refine SWp.skip ?_
            cases hj47
            exact hK48 _ () [] trivial (by simp [hN'])
      refine SWp.seq ?_
      refine SWp.seqR rfl (hPB _ rfl) fun K hK => ?_
      iterate 3 (refine wps_cons rfl fun K hK => ?_; simp [hN']; refine hK _ ?_; clear hK)
      obtain ⟨r61, hc62, h⟩ := bind_some h
      refine wps_call [(.take, .tmp 70), (.take, .const (.int .i64 0)), (.take, .tmp 71)] rfl rfl ent66 (impl_in_ok _ _ _ hc62) fun K hK => ?_; simp [hN']; refine hK _ ?_; clear hK
      refine wps_cons rfl fun K hK => ?_; simp [hN']; refine hK _ ?_; clear hK
      refine wps_nil (hK _ ?_); clear hK
      rcases ite_or h with ⟨hb63, h⟩ | ⟨hb64, h⟩
      · refine SWp.condT' (b := !r61) (by simp) hb63 ?_
        refine SWp.seqR rfl (hPB _ rfl) fun K hK => ?_
        refine wps_cons rfl fun K hK => ?_; simp [hN']; refine hK _ ?_; clear hK
        refine wps_nil (hK _ ?_); clear hK
        cases h
        refine SWp.ret ?_
        simp [thenS, inBlockS, res87]
      · refine SWp.condF' (b := !r61) (by simp) hb64 ?_
        refine SWp.skip ?_
        show SWp E C _ _ _
        refine SWp.seq ?_
        refine SWp.seqR rfl (hPB _ rfl) fun K hK => ?_
        iterate 3 (refine wps_cons rfl fun K hK => ?_; simp [hN']; refine hK _ ?_; clear hK)
        refine wps_nil (hK _ ?_); clear hK
        rcases ite_or h with ⟨hb65, h⟩ | ⟨hb66, h⟩
        · refine SWp.condT' (b := x2.Op != 13) (by simp) hb65 ?_
          obtain ⟨v71, hj67, h⟩ := bind_some h
          refine SWp.seqRC rfl (hPB _ rfl) [4] [] (fun _ : Unit => ⟨[(4, .t (vb v71))], []⟩) (fun _ => True) (fun _ _ => ?_) fun K68 hK68 => ?_
          rotate_left
          · refine wps_cons rfl fun K hK => ?_; simp [hN']; refine hK _ ?_; clear hK
            iterate 3 (refine wps_cons rfl fun K hK => ?_; simp [hN']; refine hK _ ?_; clear hK)
            rcases ite_or hj67 with ⟨hb69, hj67⟩ | ⟨hb70, hj67⟩
            · have hb69s := hb69
              try simp at hb69s
              iterate 6 (refine wps_cons rfl fun K hK => ?_; simp [hN', hb69, hb69s]; refine hK _ ?_; clear hK)
              refine wps_nil ?_
              cases hj67
              exact hK68 _ () [] trivial (by simp [hN', hb69, hb69s])
            · have hb70s := hb70
              try simp at hb70s
              iterate 4 (refine wps_off fun K hK => ?_; simp [hN', hb70, hb70s]; refine hK _ ?_; clear hK)
              iterate 2 (refine wps_cons rfl fun K hK => ?_; simp [hN', hb70, hb70s]; refine hK _ ?_; clear hK)
              refine wps_nil ?_
              cases hj67
              exact hK68 _ () [] trivial (by simp [hN', hb70, hb70s])
          cases h
          refine SWp.ret ?_
          simp [thenS, inBlockS, res87]
        · refine SWp.condF' (b := x2.Op != 13) (by simp) hb66 ?_
          refine SWp.skip ?_
          show SWp E C _ _ _
          obtain ⟨j74, hj72, h⟩ := bind_some h
          refine SWp.seqC [3] [3] (fun v : Unit => ⟨[(3, .ref (.box 3) 0 [])], [(3, [vi x2.Op, vi x2.A, vi x2.B, vi x2.C, vi x2.Num, vs x2.Name, .sl false 1 (List.map vi x2.Args)])]⟩) (fun v => j74 = Sum.inl v) (fun v hv => ?_) fun K73 hK73 => ?_
          rotate_left
          · refine SWp.seqR rfl (hPB _ rfl) fun K hK => ?_
            iterate 4 (refine wps_cons rfl fun K hK => ?_; simp [hN']; refine hK _ ?_; clear hK)
            refine wps_nil (hK _ ?_); clear hK
            refine SWp.block ?_
            refine SWp.loopO [] [2, 3, 87, 88, 89] [2, 3] (fun v : Int => ⟨[(2, .ref (.box 2) 0 []), (3, .ref (.box 3) 0 []), (87, .t (.sl false 1 (List.map vi x2.Args))), (88, .t (vi (x2.Args.length : Int))), (89, .t (vi v))], [(2, [vs c1.Name, vi c1.Params, .sl false 1 (List.map vi c1.Locals), .sl false 7 (List.map (GIns.enc false) c1.Words)]), (3, [vi x2.Op, vi x2.A, vi x2.B, vi x2.C, vi x2.Num, vs x2.Name, .sl false 1 (List.map vi x2.Args)])]⟩) (impl_WordOk_l1 c1 x2) _ 0 hj72 (by simp [hN']) ?_
            intro g s78 h76 ho77
            obtain ⟨v75, hg⟩ : ∃ y, y = g := ⟨_, rfl⟩
            subst hg
            simp only [impl_WordOk_l1] at h76
            try dsimp only
            refine SWp.seqR rfl (hPB _ rfl) fun K hK => ?_
            refine wps_cons rfl fun K hK => ?_; simp [hN']; refine hK _ ?_; clear hK
            refine wps_nil (hK _ ?_); clear hK
            refine SWp.seq ?_
            rcases ite_or h76 with ⟨hb79, h76⟩ | ⟨hb80, h76⟩
            · refine SWp.condT' (b := decide (v75 < (x2.Args.length : Int))) (by simp) hb79 ?_
              refine SWp.skip ?_
              show SWp E C _ _ _
              refine SWp.seq ?_
              refine SWp.block ?_
              refine SWp.seqR rfl (hPB _ rfl) fun K hK => ?_
              obtain ⟨e81, he81, h76⟩ := bind_some h76
              obtain ⟨he81a, he81b, he81c, he81d⟩ := getI_some he81
              iterate 3 (refine wps_cons rfl fun K hK => ?_; simp [hN', he81a, he81b, he81c, he81d]; refine hK _ ?_; clear hK)
              refine wps_nil (hK _ ?_); clear hK
              refine SWp.seqR rfl (hPB _ rfl) fun K hK => ?_
              iterate 2 (refine wps_cons rfl fun K hK => ?_; simp [hN']; refine hK _ ?_; clear hK)
              obtain ⟨r82, hc83, h76⟩ := bind_some h76
              refine wps_call [(.take, .tmp 93), (.take, .tmp 94), (.take, .const (.bool true))] rfl rfl ent114 (impl_isPlace_ok _ _ _ hc83) fun K hK => ?_; simp [hN']; refine hK _ ?_; clear hK
              refine wps_cons rfl fun K hK => ?_; simp [hN']; refine hK _ ?_; clear hK
              refine wps_nil (hK _ ?_); clear hK
              rcases ite_or h76 with ⟨hb84, h76⟩ | ⟨hb85, h76⟩
              · refine SWp.condT' (b := !r82) (by simp) hb84 ?_
                refine SWp.seqR rfl (hPB _ rfl) fun K hK => ?_
                refine wps_cons rfl fun K hK => ?_; simp [hN']; refine hK _ ?_; clear hK
                refine wps_nil (hK _ ?_); clear hK
                have h86 := congrArg some (ho77 _ (Option.some.inj h76).symm)
                cases h86
                try dsimp only at h
                cases h
                refine SWp.ret ?_
                simp [thenS, inBlockS, res87]
              · refine SWp.condF' (b := !r82) (by simp) hb85 ?_
                refine SWp.skip ?_
                show SWp E C _ _ _
                refine SWp.reg rfl (hPB _ rfl) fun K hK => ?_
                iterate 2 (refine wps_cons rfl fun K hK => ?_; simp [hN']; refine hK _ ?_; clear hK)
                refine wps_nil (hK _ ?_); clear hK
                cases h76
                exact ⟨_, [], rfl, by simp [hN']⟩
            · refine SWp.condF' (b := decide (v75 < (x2.Args.length : Int))) (by simp) hb80 ?_
              refine SWp.exit ?_
              have h87 := congrArg some (ho77 _ (Option.some.inj h76).symm)
              cases h87
              exact hK73 _ _ [] rfl (by simp [hN'])
          subst hv
          obtain ⟨⟩ := v
          try dsimp only at h ⊢
          obtain ⟨v94, hj88, h⟩ := bind_some h
          refine SWp.seqRC rfl (hPB _ rfl) [4] [] (fun _ : Unit => ⟨[(4, .t (vb v94))], []⟩) (fun _ => True) (fun _ _ => ?_) fun K89 hK89 => ?_
          rotate_left
          · refine wps_cons rfl fun K hK => ?_; simp [hN']; refine hK _ ?_; clear hK
            refine wps_cons rfl fun K hK => ?_; simp [hN']; refine hK _ ?_; clear hK
            obtain ⟨r90, hc91, hj88⟩ := bind_some hj88
            refine wps_call [(.take, .tmp 99)] rfl rfl ent86 (impl_NameOk_ok _ hc91) fun K hK => ?_; simp [hN']; refine hK _ ?_; clear hK
            refine wps_cons rfl fun K hK => ?_; simp [hN']; refine hK _ ?_; clear hK
            rcases ite_or hj88 with ⟨hb92, hj88⟩ | ⟨hb93, hj88⟩
            · have hb92s := hb92
              try simp at hb92s
              iterate 6 (refine wps_cons rfl fun K hK => ?_; simp [hN', hb92, hb92s]; refine hK _ ?_; clear hK)
              refine wps_nil ?_
              cases hj88
              exact hK89 _ () [] trivial (by simp [hN', hb92, hb92s])
            · have hb93s := hb93
              try simp at hb93s
              iterate 4 (refine wps_off fun K hK => ?_; simp [hN', hb93, hb93s]; refine hK _ ?_; clear hK)
              iterate 2 (refine wps_cons rfl fun K hK => ?_; simp [hN', hb93, hb93s]; refine hK _ ?_; clear hK)
              refine wps_nil ?_
              cases hj88
              exact hK89 _ () [] trivial (by simp [hN', hb93, hb93s])
          cases h
          refine SWp.ret ?_
          simp [thenS, inBlockS, res87]
end Go.Proofs.T
set_option linter.unusedVariables false
set_option linter.unusedSimpArgs false
set_option maxHeartbeats 1000000
namespace Go.Proofs.T
open Go.OM
theorem res50 : Tryd.f50.results.toList = [.tmp 2] := rfl
theorem ent50 : Enters E.P 50 := enters_of Tryd.func50 (by simp [Tryd.f50]) rfl
theorem impl_CodeOk_ok (c1 : GCode) {r0 : Bool} (h : impl_CodeOk c1 = some r0) : Ok E 50 [.val (GCode.enc false c1)] [vb r0] [] := by
  refine ok_of_body (fn := Tryd.f50) Tryd.func50 rfl (by simp [Tryd.f50]) fun C hN hP => ?_
  have hPB : ∀ l, pinK [] l = true → pinB C.pin l = true := pinB_of (by rw [hP]; rfl)
  have hN' : C.N = 68 := hN
  clear hN
  unfold impl_CodeOk at h
  refine SWp.seqR rfl (hPB _ rfl) fun K hK => ?_
  iterate 2 (refine wps_cons rfl fun K hK => ?_; simp [hN']; refine hK _ ?_; clear hK)
  refine wps_nil (hK _ ?_); clear hK
  refine SWp.seqR rfl (hPB _ rfl) fun K hK => ?_
  iterate 4 (refine wps_cons rfl fun K hK => ?_; simp [hN']; refine hK _ ?_; clear hK)
  refine wps_nil (hK _ ?_); clear hK
  refine SWp.seq ?_
  obtain ⟨v19, hj2, h⟩ := bind_some h
  refine SWp.seqRC rfl (hPB _ rfl) [1, 44] [1] (fun _ : Unit => ⟨[(1, .ref (.box 1) 0 []), (44, .t (vb v19))], [(1, [vs c1.Name, vi c1.Params, .sl false 1 (List.map vi c1.Locals), .sl false 7 (List.map (GIns.enc false) c1.Words)])]⟩) (fun _ => True) (fun _ _ => ?_) fun K3 hK3 => ?_
  rotate_left
  · refine wps_cons rfl fun K hK => ?_; simp [hN']; refine hK _ ?_; clear hK
    refine wps_cons rfl fun K hK => ?_; simp [hN']; refine hK _ ?_; clear hK
    obtain ⟨r4, hc5, hj2⟩ := bind_some hj2
    refine wps_call [(.take, .tmp 12)] rfl rfl ent86 (impl_NameOk_ok _ hc5) fun K hK => ?_; simp [hN']; refine hK _ ?_; clear hK
    iterate 2 (refine wps_cons rfl fun K hK => ?_; simp [hN']; refine hK _ ?_; clear hK)
    rcases ite_or hj2 with ⟨hb6, hj2⟩ | ⟨hb7, hj2⟩
    · have hb6s := hb6
      try simp at hb6s
      iterate 4 (refine wps_off fun K hK => ?_; simp [hN', hb6, hb6s]; refine hK _ ?_; clear hK)
      iterate 2 (refine wps_cons rfl fun K hK => ?_; simp [hN', hb6, hb6s]; refine hK _ ?_; clear hK)
      iterate 7 (refine wps_off fun K hK => ?_; simp [hN', hb6, hb6s]; refine hK _ ?_; clear hK)
      iterate 2 (refine wps_cons rfl fun K hK => ?_; simp [hN', hb6, hb6s]; refine hK _ ?_; clear hK)
      iterate 3 (refine wps_off fun K hK => ?_; simp [hN', hb6, hb6s]; refine hK _ ?_; clear hK)
      iterate 2 (refine wps_cons rfl fun K hK => ?_; simp [hN', hb6, hb6s]; refine hK _ ?_; clear hK)
      iterate 8 (refine wps_off fun K hK => ?_; simp [hN', hb6, hb6s]; refine hK _ ?_; clear hK)
      refine wps_cons rfl fun K hK => ?_; simp [hN', hb6, hb6s]; refine hK _ ?_; clear hK
      refine wps_nil ?_
      cases hj2
      exact hK3 _ () [] trivial (by simp [hN', hb6, hb6s])
    · have hb7s := hb7
      try simp at hb7s
      iterate 6 (refine wps_cons rfl fun K hK => ?_; simp [hN', hb7, hb7s]; refine hK _ ?_; clear hK)
      rcases ite_or hj2 with ⟨hb8, hj2⟩ | ⟨hb9, hj2⟩
      · have hb8s := hb8
        try simp at hb8s
        iterate 7 (refine wps_off fun K hK => ?_; simp [hN', hb7, hb7s, hb8, hb8s]; refine hK _ ?_; clear hK)
        iterate 2 (refine wps_cons rfl fun K hK => ?_; simp [hN', hb7, hb7s, hb8, hb8s]; refine hK _ ?_; clear hK)
        iterate 3 (refine wps_off fun K hK => ?_; simp [hN', hb7, hb7s, hb8, hb8s]; refine hK _ ?_; clear hK)
        iterate 2 (refine wps_cons rfl fun K hK => ?_; simp [hN', hb7, hb7s, hb8, hb8s]; refine hK _ ?_; clear hK)
        iterate 8 (refine wps_off fun K hK => ?_; simp [hN', hb7, hb7s, hb8, hb8s]; refine hK _ ?_; clear hK)
        refine wps_cons rfl fun K hK => ?_; simp [hN', hb7, hb7s, hb8, hb8s]; refine hK _ ?_; clear hK
        refine wps_nil ?_
        cases hj2
        exact hK3 _ () [] trivial (by simp [hN', hb7, hb7s, hb8, hb8s])
      · have hb9s := hb9
        try simp at hb9s
        iterate 5 (refine wps_cons rfl fun K hK => ?_; simp [hN', hb7, hb7s, hb9, hb9s]; refine hK _ ?_; clear hK)
        obtain ⟨r10, hc11, hj2⟩ := bind_some hj2
        refine wps_call [(.take, .tmp 23), (.take, .const (.int .i64 0)), (.take, .tmp 26)] rfl rfl ent66 (impl_in_ok _ _ _ hc11) fun K hK => ?_; simp [hN', hb7, hb7s, hb9, hb9s]; refine hK _ ?_; clear hK
        iterate 3 (refine wps_cons rfl fun K hK => ?_; simp [hN', hb7, hb7s, hb9, hb9s]; refine hK _ ?_; clear hK)
        rcases ite_or hj2 with ⟨hb12, hj2⟩ | ⟨hb13, hj2⟩
        · have hb12s := hb12
          try simp at hb12s
          iterate 3 (refine wps_off fun K hK => ?_; simp [hN', hb7, hb7s, hb9, hb9s, hb12, hb12s]; refine hK _ ?_; clear hK)
          iterate 2 (refine wps_cons rfl fun K hK => ?_; simp [hN', hb7, hb7s, hb9, hb9s, hb12, hb12s]; refine hK _ ?_; clear hK)
          iterate 8 (refine wps_off fun K hK => ?_; simp [hN', hb7, hb7s, hb9, hb9s, hb12, hb12s]; refine hK _ ?_; clear hK)
          refine wps_cons rfl fun K hK => ?_; simp [hN', hb7, hb7s, hb9, hb9s, hb12, hb12s]; refine hK _ ?_; clear hK
          refine wps_nil ?_
          cases hj2
          exact hK3 _ () [] trivial (by simp [hN', hb7, hb7s, hb9, hb9s, hb12, hb12s])
        · have hb13s := hb13
          try simp at hb13s
          refine wps_cons rfl fun K hK => ?_; simp [hN', hb7, hb7s, hb9, hb9s, hb13, hb13s]; refine hK _ ?_; clear hK
          obtain ⟨r14, hc15, hj2⟩ := bind_some hj2
          refine wps_call [(.take, .tmp 31), (.take, .const (.int .i64 1)), (.take, .const (.int .i64 400))] rfl rfl ent66 (impl_in_ok _ _ _ hc15) fun K hK => ?_; simp [hN', hb7, hb7s, hb9, hb9s, hb13, hb13s]; refine hK _ ?_; clear hK
          iterate 3 (refine wps_cons rfl fun K hK => ?_; simp [hN', hb7, hb7s, hb9, hb9s, hb13, hb13s]; refine hK _ ?_; clear hK)
          rcases ite_or hj2 with ⟨hb16, hj2⟩ | ⟨hb17, hj2⟩
          · have hb16s := hb16
            try simp at hb16s
            iterate 8 (refine wps_off fun K hK => ?_; simp [hN', hb7, hb7s, hb9, hb9s, hb13, hb13s, hb16, hb16s]; refine hK _ ?_; clear hK)
            refine wps_cons rfl fun K hK => ?_; simp [hN', hb7, hb7s, hb9, hb9s, hb13, hb13s, hb16, hb16s]; refine hK _ ?_; clear hK
            refine wps_nil ?_
            cases hj2
            exact hK3 _ () [] trivial (by simp [hN', hb7, hb7s, hb9, hb9s, hb13, hb13s, hb16, hb16s])
          · have hb17s := hb17
            try simp at hb17s
            iterate 4 (refine wps_cons rfl fun K hK => ?_; simp [hN', hb7, hb7s, hb9, hb9s, hb13, hb13s, hb17, hb17s]; refine hK _ ?_; clear hK)
            obtain ⟨e18, he18, hj2⟩ := bind_some hj2
            obtain ⟨he18a, he18b, he18c, he18d⟩ := getI_some he18
            have he18j := he18b; try simp at he18j
            try simp only [Int.toNat_natCast] at he18c he18d
            iterate 5 (refine wps_cons rfl fun K hK => ?_; simp [hN', hb7, hb7s, hb9, hb9s, hb13, hb13s, hb17, hb17s, he18a, he18b, he18c, he18d, he18j]; refine hK _ ?_; clear hK)
            refine wps_nil ?_
            cases hj2
            exact hK3 _ () [] trivial (by simp [hN', hb7, hb7s, hb9, hb9s, hb13, hb13s, hb17, hb17s, he18a, he18b, he18c, he18d, he18j])
  rcases ite_or h with ⟨hb20, h⟩ | ⟨hb21, h⟩
  · refine SWp.condT' (b := v19) (by simp) hb20 ?_
    refine SWp.seqR rfl (hPB _ rfl) fun K hK => ?_
    refine wps_cons rfl fun K hK => ?_; simp [hN']; refine hK _ ?_; clear hK
    refine wps_nil (hK _ ?_); clear hK
    cases h
    refine SWp.ret ?_
    simp [thenS, inBlockS, res50]
  · refine SWp.condF' (b := v19) (by simp) hb21 ?_
    refine SWp.skip ?_
    show SWp E C _ _ _
    obtain ⟨j24, hj22, h⟩ := bind_some h
    refine SWp.seqC [1] [1] (fun v : Unit => ⟨[(1, .ref (.box 1) 0 [])], [(1, [vs c1.Name, vi c1.Params, .sl false 1 (List.map vi c1.Locals), .sl false 7 (List.map (GIns.enc false) c1.Words)])]⟩) (fun v => j24 = Sum.inl v) (fun v hv => ?_) fun K23 hK23 => ?_
    rotate_left
    · refine SWp.seqR rfl (hPB _ rfl) fun K hK => ?_
      iterate 4 (refine wps_cons rfl fun K hK => ?_; simp [hN']; refine hK _ ?_; clear hK)
      refine wps_nil (hK _ ?_); clear hK
      refine SWp.block ?_
      refine SWp.loopO [] [1, 46, 47, 48] [1] (fun v : Int => ⟨[(1, .ref (.box 1) 0 []), (46, .t (.sl false 1 (List.map vi c1.Locals))), (47, .t (vi (c1.Locals.length : Int))), (48, .t (vi v))], [(1, [vs c1.Name, vi c1.Params, .sl false 1 (List.map vi c1.Locals), .sl false 7 (List.map (GIns.enc false) c1.Words)])]⟩) (impl_CodeOk_l1 c1) _ 0 hj22 (by simp [hN']) ?_
      intro g s28 h26 ho27
      obtain ⟨v25, hg⟩ : ∃ y, y = g := ⟨_, rfl⟩
      subst hg
      simp only [impl_CodeOk_l1] at h26
      try dsimp only
      refine SWp.seqR rfl (hPB _ rfl) fun K hK => ?_
      refine wps_cons rfl fun K hK => ?_; simp [hN']; refine hK _ ?_; clear hK
      refine wps_nil (hK _ ?_); clear hK
      refine SWp.seq ?_
      rcases ite_or h26 with ⟨hb29, h26⟩ | ⟨hb30, h26⟩
      · refine SWp.condT' (b := decide (v25 < (c1.Locals.length : Int))) (by simp) hb29 ?_
        refine SWp.skip ?_
        show SWp E C _ _ _
        refine SWp.seq ?_
        refine SWp.block ?_
        refine SWp.seqR rfl (hPB _ rfl) fun K hK => ?_
        obtain ⟨e31, he31, h26⟩ := bind_some h26
        obtain ⟨he31a, he31b, he31c, he31d⟩ := getI_some he31
        iterate 3 (refine wps_cons rfl fun K hK => ?_; simp [hN', he31a, he31b, he31c, he31d]; refine hK _ ?_; clear hK)
        refine wps_nil (hK _ ?_); clear hK
        refine SWp.seqR rfl (hPB _ rfl) fun K hK => ?_
        refine wps_cons rfl fun K hK => ?_; simp [hN']; refine hK _ ?_; clear hK
        obtain ⟨r32, hc33, h26⟩ := bind_some h26
        refine wps_call [(.take, .tmp 52), (.take, .const (.int .i64 1)), (.take, .const (.int .i64 4))] rfl rfl ent66 (impl_in_ok _ _ _ hc33) fun K hK => ?_; simp [hN']; refine hK _ ?_; clear hK
        refine wps_cons rfl fun K hK => ?_; simp [hN']; refine hK _ ?_; clear hK
        refine wps_nil (hK _ ?_); clear hK
        rcases ite_or h26 with ⟨hb34, h26⟩ | ⟨hb35, h26⟩
        · refine SWp.condT' (b := !r32) (by simp) hb34 ?_
          refine SWp.seqR rfl (hPB _ rfl) fun K hK => ?_
          refine wps_cons rfl fun K hK => ?_; simp [hN']; refine hK _ ?_; clear hK
          refine wps_nil (hK _ ?_); clear hK
          have h36 := congrArg some (ho27 _ (Option.some.inj h26).symm)
          cases h36
          try dsimp only at h
          cases h
          refine SWp.ret ?_
          simp [thenS, inBlockS, res50]
        · refine SWp.condF' (b := !r32) (by simp) hb35 ?_
          refine SWp.skip ?_
          show SWp E C _ _ _
          refine SWp.reg rfl (hPB _ rfl) fun K hK => ?_
          iterate 2 (refine wps_cons rfl fun K hK => ?_; simp [hN']; refine hK _ ?_; clear hK)
          refine wps_nil (hK _ ?_); clear hK
          cases h26
          exact ⟨_, [], rfl, by simp [hN']⟩
      · refine SWp.condF' (b := decide (v25 < (c1.Locals.length : Int))) (by simp) hb30 ?_
        refine SWp.exit ?_
        have h37 := congrArg some (ho27 _ (Option.some.inj h26).symm)
        cases h37
        exact hK23 _ _ [] rfl (by simp [hN'])
    subst hv
    obtain ⟨⟩ := v
    try dsimp only at h ⊢
    obtain ⟨j40, hj38, h⟩ := bind_some h
    refine SWp.seqC [] [] (fun v : Unit => ⟨[], []⟩) (fun v => j40 = Sum.inl v) (fun v hv => ?_) fun K39 hK39 => ?_
    rotate_left
    · refine SWp.seqR rfl (hPB _ rfl) fun K hK => ?_
      iterate 4 (refine wps_cons rfl fun K hK => ?_; simp [hN']; refine hK _ ?_; clear hK)
      refine wps_nil (hK _ ?_); clear hK
      refine SWp.block ?_
      refine SWp.loopO [] [1, 57, 58, 59] [1] (fun v : Int => ⟨[(1, .ref (.box 1) 0 []), (57, .t (.sl false 7 (List.map (GIns.enc false) c1.Words))), (58, .t (vi (c1.Words.length : Int))), (59, .t (vi v))], [(1, [vs c1.Name, vi c1.Params, .sl false 1 (List.map vi c1.Locals), .sl false 7 (List.map (GIns.enc false) c1.Words)])]⟩) (impl_CodeOk_l2 c1) _ 0 hj38 (by simp [hN']) ?_
      intro g s44 h42 ho43
      obtain ⟨v41, hg⟩ : ∃ y, y = g := ⟨_, rfl⟩
      subst hg
      simp only [impl_CodeOk_l2] at h42
      try dsimp only
      refine SWp.seqR rfl (hPB _ rfl) fun K hK => ?_
      refine wps_cons rfl fun K hK => ?_; simp [hN']; refine hK _ ?_; clear hK
      refine wps_nil (hK _ ?_); clear hK
      refine SWp.seq ?_
      rcases ite_or h42 with ⟨hb45, h42⟩ | ⟨hb46, h42⟩
      · refine SWp.condT' (b := decide (v41 < (c1.Words.length : Int))) (by simp) hb45 ?_
        refine SWp.skip ?_
        show SWp E C _ _ _
        refine SWp.seq ?_
        refine SWp.block ?_
        refine SWp.seqR rfl (hPB _ rfl) fun K hK => ?_
        obtain ⟨e47, he47, h42⟩ := bind_some h42
        obtain ⟨he47a, he47b, he47c, he47d⟩ := getI_some he47
        iterate 4 (refine wps_cons rfl fun K hK => ?_; simp [hN', he47a, he47b, he47c, he47d]; refine hK _ ?_; clear hK)
        refine wps_nil (hK _ ?_); clear hK
        refine SWp.seqR rfl (hPB _ rfl) fun K hK => ?_
        iterate 2 (refine wps_cons rfl fun K hK => ?_; simp [hN']; refine hK _ ?_; clear hK)
        obtain ⟨r48, hc49, h42⟩ := bind_some h42
        refine wps_call [(.take, .tmp 63), (.take, .tmp 64)] rfl rfl ent87 (impl_WordOk_ok _ _ hc49) fun K hK => ?_; simp [hN']; refine hK _ ?_; clear hK
        refine wps_cons rfl fun K hK => ?_; simp [hN']; refine hK _ ?_; clear hK
        refine wps_nil (hK _ ?_); clear hK
        rcases ite_or h42 with ⟨hb50, h42⟩ | ⟨hb51, h42⟩
        · refine SWp.condT' (b := !r48) (by simp) hb50 ?_
          refine SWp.seqR rfl (hPB _ rfl) fun K hK => ?_
          refine wps_cons rfl fun K hK => ?_; simp [hN']; refine hK _ ?_; clear hK
          refine wps_nil (hK _ ?_); clear hK
          have h52 := congrArg some (ho43 _ (Option.some.inj h42).symm)
          cases h52
          try dsimp only at h
          cases h
          refine SWp.ret ?_
          simp [thenS, inBlockS, res50]
        · refine SWp.condF' (b := !r48) (by simp) hb51 ?_
          refine SWp.skip ?_
          show SWp E C _ _ _
          refine SWp.reg rfl (hPB _ rfl) fun K hK => ?_
          iterate 2 (refine wps_cons rfl fun K hK => ?_; simp [hN']; refine hK _ ?_; clear hK)
          refine wps_nil (hK _ ?_); clear hK
          cases h42
          exact ⟨_, [], rfl, by simp [hN']⟩
      · refine SWp.condF' (b := decide (v41 < (c1.Words.length : Int))) (by simp) hb46 ?_
        refine SWp.exit ?_
        have h53 := congrArg some (ho43 _ (Option.some.inj h42).symm)
        cases h53
        exact hK39 _ _ [] rfl (by simp [hN'])
    subst hv
    obtain ⟨⟩ := v
    try dsimp only at h ⊢
    refine SWp.seqR rfl (hPB _ rfl) fun K hK => ?_
    refine wps_cons rfl fun K hK => ?_; simp [hN']; refine hK _ ?_; clear hK
    refine wps_nil (hK _ ?_); clear hK
    cases h
    refine SWp.ret ?_
    simp [thenS, inBlockS, res50]
end Go.Proofs.T
set_option linter.unusedVariables false
set_option linter.unusedSimpArgs false
set_option maxHeartbeats 1000000
namespace Go.Proofs.T
open Go.OM
theorem res51 : Tryd.f51.results.toList = [.tmp 4] := rfl
theorem ent51 : Enters E.P 51 := enters_of Tryd.func51 (by simp [Tryd.f51]) rfl
theorem impl_Next_ok (c1 : GCode) (i2 : Int) {r0 : List Int} (h : impl_Next c1 i2 = some r0) : Ok E 51 [.val (GCode.enc false c1), .val (vi i2)] [.sl true 1 (List.map vi r0)] [] := by
  refine ok_of_body (fn := Tryd.f51) Tryd.func51 rfl (by simp [Tryd.f51]) fun C hN hP => ?_
  have hPB : ∀ l, pinK [] l = true → pinB C.pin l = true := pinB_of (by rw [hP]; rfl)
  have hN' : C.N = 59 := hN
  clear hN
  unfold impl_Next at h
  refine SWp.seqR rfl (hPB _ rfl) fun K hK => ?_
  iterate 2 (refine wps_cons rfl fun K hK => ?_; simp [hN']; refine hK _ ?_; clear hK)
  refine wps_nil (hK _ ?_); clear hK
  refine SWp.seq ?_
  refine SWp.seqR rfl (hPB _ rfl) fun K hK => ?_
  iterate 5 (refine wps_cons rfl fun K hK => ?_; simp [hN']; refine hK _ ?_; clear hK)
  obtain ⟨r3, hc4, h⟩ := bind_some h
  refine wps_call [(.take, .tmp 10), (.take, .const (.int .i64 0)), (.take, .tmp 14)] rfl rfl ent66 (impl_in_ok _ _ _ hc4) fun K hK => ?_; simp [hN']; refine hK _ ?_; clear hK
  refine wps_cons rfl fun K hK => ?_; simp [hN']; refine hK _ ?_; clear hK
  refine wps_nil (hK _ ?_); clear hK
  rcases ite_or h with ⟨hb5, h⟩ | ⟨hb6, h⟩
  · refine SWp.condT' (b := !r3) (by simp) hb5 ?_
    refine SWp.seqR rfl (hPB _ rfl) fun K hK => ?_
    refine wps_cons rfl fun K hK => ?_; simp [hN']; refine hK _ ?_; clear hK
    refine wps_nil (hK _ ?_); clear hK
    cases h
    refine SWp.ret ?_
    simp [thenS, inBlockS, res51]
  · refine SWp.condF' (b := !r3) (by simp) hb6 ?_
    refine SWp.skip ?_
    show SWp E C _ _ _
    refine SWp.seqR rfl (hPB _ rfl) fun K hK => ?_
    iterate 3 (refine wps_cons rfl fun K hK => ?_; simp [hN']; refine hK _ ?_; clear hK)
    obtain ⟨e7, he7, h⟩ := bind_some h
    obtain ⟨he7a, he7b, he7c, he7d⟩ := getI_some he7
    iterate 4 (refine wps_cons rfl fun K hK => ?_; simp [hN', he7a, he7b, he7c, he7d]; refine hK _ ?_; clear hK)
    refine wps_nil (hK _ ?_); clear hK
    refine SWp.seqR rfl (hPB _ rfl) fun K hK => ?_
    iterate 4 (refine wps_cons rfl fun K hK => ?_; simp [hN']; refine hK _ ?_; clear hK)
    refine wps_nil (hK _ ?_); clear hK
    obtain ⟨l18, hj8, h⟩ := bind_some h
    refine SWp.seqC [2, 6] [2] (fun _ : Unit => ⟨[(2, .ref (.box 2) 0 []), (6, .t (.sl true 1 (List.map vi l18)))], [(2, [vs c1.Name, vi c1.Params, .sl false 1 (List.map vi c1.Locals), .sl false 7 (List.map (GIns.enc false) c1.Words)])]⟩) (fun _ => True) (fun _ _ => ?_) fun K9 hK9 => ?_
    rotate_left
    · refine SWp.seqR rfl (hPB _ rfl) fun K hK => ?_
      iterate 2 (refine wps_cons rfl fun K hK => ?_; simp [hN']; refine hK _ ?_; clear hK)
      refine wps_nil (hK _ ?_); clear hK
      refine SWp.block ?_
      refine SWp.seqR rfl (hPB _ rfl) fun K hK => ?_
      iterate 2 (refine wps_cons rfl fun K hK => ?_; simp [hN']; refine hK _ ?_; clear hK)
      refine wps_nil (hK _ ?_); clear hK
      rcases ite_or hj8 with ⟨hb11, hj8⟩ | ⟨hb12, hj8⟩
      · refine SWp.condT' (b := e7.Op == 20) (by simp) hb11 ?_
        refine SWp.reg rfl (hPB _ rfl) fun K hK => ?_
        refine wps_cons rfl fun K hK => ?_; simp [hN']; refine hK _ ?_; clear hK
        refine wps_nil (hK _ ?_); clear hK
        cases hj8
        exact hK9 _ () [] trivial (by simp [hN'])
      · refine SWp.condF' (b := e7.Op == 20) (by simp) hb12 ?_
        refine SWp.seqR rfl (hPB _ rfl) fun K hK => ?_
        iterate 2 (refine wps_cons rfl fun K hK => ?_; simp [hN']; refine hK _ ?_; clear hK)
        refine wps_nil (hK _ ?_); clear hK
        rcases ite_or hj8 with ⟨hb13, hj8⟩ | ⟨hb14, hj8⟩
        · refine SWp.condT' (b := e7.Op == 18) (by simp) hb13 ?_
          refine SWp.reg rfl (hPB _ rfl) fun K hK => ?_
          iterate 4 (refine wps_cons rfl fun K hK => ?_; simp [hN']; refine hK _ ?_; clear hK)
          refine wps_nil (hK _ ?_); clear hK
          cases hj8
          exact hK9 _ () [] trivial (by simp [hN'])
        · refine SWp.condF' (b := e7.Op == 18) (by simp) hb14 ?_
          refine SWp.seqR rfl (hPB _ rfl) fun K hK => ?_
          iterate 2 (refine wps_cons rfl fun K hK => ?_; simp [hN']; refine hK _ ?_; clear hK)
          refine wps_nil (hK _ ?_); clear hK
          rcases ite_or hj8 with ⟨hb15, hj8⟩ | ⟨hb16, hj8⟩
          · refine SWp.condT' (b := e7.Op == 19) (by simp) hb15 ?_
            refine SWp.reg rfl (hPB _ rfl) fun K hK => ?_
            iterate 4 (refine wps_cons rfl fun K hK => ?_; simp [hN']; refine hK _ ?_; clear hK)
            obtain ⟨l17, hl17, hj8⟩ := bind_some hj8
            obtain ⟨hl17a, hl17b, hl17d⟩ := appI_some hl17
            have hl17f : List.map vi [IntKind.wrap .i64 (i2 + 1)] ++ List.map vi [e7.Num] = List.map vi l17 := app_map (f := vi) hl17d
            simp [eSl] at hl17a hl17b hl17f
            iterate 2 (refine wps_cons rfl fun K hK => ?_; simp [hN', hl17a, hl17b, hl17f]; refine hK _ ?_; clear hK)
            refine wps_nil (hK _ ?_); clear hK
            cases hj8
            exact hK9 _ () [] trivial (by simp [hN'])
          · refine SWp.condF' (b := e7.Op == 19) (by simp) hb16 ?_
            refine SWp.skip ?_
            cases hj8
            exact hK9 _ () [] trivial (by simp [hN'])
    refine SWp.seqR rfl (hPB _ rfl) fun K hK => ?_
    refine wps_cons rfl fun K hK => ?_; simp [hN']; refine hK _ ?_; clear hK
    refine wps_nil (hK _ ?_); clear hK
    obtain ⟨out36, hj19, h⟩ := bind_some h
    refine SWp.seqC [7] [] (fun _ : Unit => ⟨[(7, .t (.sl true 1 (List.map vi out36)))], []⟩) (fun _ => True) (fun _ _ => ?_) fun K20 hK20 => ?_
    rotate_left
    · refine SWp.seqR rfl (hPB _ rfl) fun K hK => ?_
      iterate 3 (refine wps_cons rfl fun K hK => ?_; simp [hN']; refine hK _ ?_; clear hK)
      refine wps_nil (hK _ ?_); clear hK
      refine SWp.block ?_
      refine SWp.loopO [] [2, 6, 7, 41, 42, 43] [2] (fun v : (List Int) × Int => ⟨[(2, .ref (.box 2) 0 []), (6, .t (.sl true 1 (List.map vi l18))), (7, .t (.sl true 1 (List.map vi v.1))), (41, .al (.slot 6) 0 [] none), (42, .t (vi (l18.length : Int))), (43, .t (vi v.2))], [(2, [vs c1.Name, vi c1.Params, .sl false 1 (List.map vi c1.Locals), .sl false 7 (List.map (GIns.enc false) c1.Words)])]⟩) (impl_Next_l1 c1 l18) _ ([], 0) hj19 (by simp [hN']) ?_
      intro g s26 h24 ho25
      obtain ⟨out22, v23⟩ := g
      simp only [impl_Next_l1] at h24
      try dsimp only
      refine SWp.seqR rfl (hPB _ rfl) fun K hK => ?_
      refine wps_cons rfl fun K hK => ?_; simp [hN']; refine hK _ ?_; clear hK
      refine wps_nil (hK _ ?_); clear hK
      refine SWp.seq ?_
      rcases ite_or h24 with ⟨hb27, h24⟩ | ⟨hb28, h24⟩
      · refine SWp.condT' (b := decide (v23 < (l18.length : Int))) (by simp) hb27 ?_
        refine SWp.skip ?_
        show SWp E C _ _ _
        refine SWp.seq ?_
        refine SWp.block ?_
        refine SWp.seqR rfl (hPB _ rfl) fun K hK => ?_
        obtain ⟨e29, he29, h24⟩ := bind_some h24
        obtain ⟨he29a, he29b, he29c, he29d⟩ := getI_some he29
        iterate 3 (refine wps_cons rfl fun K hK => ?_; simp [hN', he29a, he29b, he29c, he29d]; refine hK _ ?_; clear hK)
        refine wps_nil (hK _ ?_); clear hK
        refine SWp.seqR rfl (hPB _ rfl) fun K hK => ?_
        iterate 5 (refine wps_cons rfl fun K hK => ?_; simp [hN']; refine hK _ ?_; clear hK)
        obtain ⟨r30, hc31, h24⟩ := bind_some h24
        refine wps_call [(.take, .tmp 47), (.take, .const (.int .i64 0)), (.take, .tmp 51)] rfl rfl ent66 (impl_in_ok _ _ _ hc31) fun K hK => ?_; simp [hN']; refine hK _ ?_; clear hK
        refine wps_nil (hK _ ?_); clear hK
        rcases ite_or h24 with ⟨hb32, h24⟩ | ⟨hb33, h24⟩
        · refine SWp.condT' (b := r30) (by simp) hb32 ?_
          refine SWp.reg rfl (hPB _ rfl) fun K hK => ?_
          iterate 3 (refine wps_cons rfl fun K hK => ?_; simp [hN']; refine hK _ ?_; clear hK)
          obtain ⟨l34, hl34, h24⟩ := bind_some h24
          obtain ⟨hl34a, hl34b, hl34d⟩ := appI_some hl34
          have hl34f : List.map vi out22 ++ List.map vi [e29] = List.map vi l34 := app_map (f := vi) hl34d
          simp [eSl] at hl34a hl34b hl34f
          iterate 2 (refine wps_cons rfl fun K hK => ?_; simp [hN', hl34a, hl34b, hl34f]; refine hK _ ?_; clear hK)
          refine wps_nil (hK _ ?_); clear hK
          show SWp E C _ _ _
          refine SWp.reg rfl (hPB _ rfl) fun K hK => ?_
          iterate 2 (refine wps_cons rfl fun K hK => ?_; simp [hN']; refine hK _ ?_; clear hK)
          refine wps_nil (hK _ ?_); clear hK
          cases h24
          exact ⟨_, [], rfl, by simp [hN']⟩
        · refine SWp.condF' (b := r30) (by simp) hb33 ?_
          refine SWp.skip ?_
          show SWp E C _ _ _
          refine SWp.reg rfl (hPB _ rfl) fun K hK => ?_
          iterate 2 (refine wps_cons rfl fun K hK => ?_; simp [hN']; refine hK _ ?_; clear hK)
          refine wps_nil (hK _ ?_); clear hK
          cases h24
          exact ⟨_, [], rfl, by simp [hN']⟩
      · refine SWp.condF' (b := decide (v23 < (l18.length : Int))) (by simp) hb28 ?_
        refine SWp.exit ?_
        have h35 := congrArg some (ho25 _ (Option.some.inj h24).symm)
        cases h35
        exact hK20 _ () [] trivial (by simp [hN'])
    refine SWp.seqR rfl (hPB _ rfl) fun K hK => ?_
    iterate 2 (refine wps_cons rfl fun K hK => ?_; simp [hN']; refine hK _ ?_; clear hK)
    refine wps_nil (hK _ ?_); clear hK
    cases h
    refine SWp.ret ?_
    simp [thenS, inBlockS, res51]
end Go.Proofs.T
set_option linter.unusedVariables false
set_option linter.unusedSimpArgs false
set_option maxHeartbeats 1000000
namespace Go.Proofs.T
open Go.OM
theorem res16 : Tryd.f16.results.toList = [.tmp 2] := rfl
theorem ent16 : Enters E.P 16 := enters_of Tryd.func16 (by simp [Tryd.f16]) rfl
theorem impl_ReachedWords_ok (c1 : GCode) {r0 : List Bool} (h : impl_ReachedWords c1 = some r0) : Ok E 16 [.val (GCode.enc false c1)] [.sl true 1 (List.map vb r0)] [] := by
  refine ok_of_body (fn := Tryd.f16) Tryd.func16 rfl (by simp [Tryd.f16]) fun C hN hP => ?_
  have hPB : ∀ l, pinK [] l = true → pinB C.pin l = true := pinB_of (by rw [hP]; rfl)
  have hN' : C.N = 48 := hN
  clear hN
  unfold impl_ReachedWords at h
  refine SWp.seqR rfl (hPB _ rfl) fun K hK => ?_
  iterate 2 (refine wps_cons rfl fun K hK => ?_; simp [hN']; refine hK _ ?_; clear hK)
  refine wps_nil (hK _ ?_); clear hK
  refine SWp.seq ?_
  refine SWp.seqR rfl (hPB _ rfl) fun K hK => ?_
  refine wps_cons rfl fun K hK => ?_; simp [hN']; refine hK _ ?_; clear hK
  obtain ⟨r2, hc3, h⟩ := bind_some h
  refine wps_call [(.take, .tmp 8)] rfl rfl ent50 (impl_CodeOk_ok _ hc3) fun K hK => ?_; simp [hN']; refine hK _ ?_; clear hK
  refine wps_cons rfl fun K hK => ?_; simp [hN']; refine hK _ ?_; clear hK
  refine wps_nil (hK _ ?_); clear hK
  rcases ite_or h with ⟨hb4, h⟩ | ⟨hb5, h⟩
  · refine SWp.condT' (b := !r2) (by simp) hb4 ?_
    refine SWp.seqR rfl (hPB _ rfl) fun K hK => ?_
    refine wps_cons rfl fun K hK => ?_; simp [hN']; refine hK _ ?_; clear hK
    refine wps_nil (hK _ ?_); clear hK
    cases h
    refine SWp.ret ?_
    simp [thenS, inBlockS, res16]
  · refine SWp.condF' (b := !r2) (by simp) hb5 ?_
    refine SWp.skip ?_
    show SWp E C _ _ _
    refine SWp.seqR rfl (hPB _ rfl) fun K hK => ?_
    iterate 3 (refine wps_cons rfl fun K hK => ?_; simp [hN']; refine hK _ ?_; clear hK)
    obtain ⟨l6, hl6, h⟩ := bind_some h
    obtain ⟨hl6a, hl6b, hl6c, hl6d⟩ := mkI_some hl6
    have hl6f : List.replicate (c1.Words.length : Int).toNat (vb false) = List.map vb l6 := rep_map (f := vb) hl6d
    try simp only [Int.toNat_natCast] at hl6f
    iterate 2 (refine wps_cons rfl fun K hK => ?_; simp [hN', hl6a, hl6b, hl6c, hl6f]; refine hK _ ?_; clear hK)
    refine wps_nil (hK _ ?_); clear hK
    refine SWp.seqR rfl (hPB _ rfl) fun K hK => ?_
    refine wps_cons rfl fun K hK => ?_; simp [hN']; refine hK _ ?_; clear hK
    obtain ⟨e7, he7, h⟩ := bind_some h
    obtain ⟨he7a, he7b, he7c, he7d⟩ := getI_some he7
    have he7e : 0 < l6.length := by omega
    have he7g : l6[0]? = some e7 := he7c
    have he7i : l6[0] = e7 := he7d he7e
    refine wps_cons rfl fun K hK => ?_; simp [hN', he7a, he7b, he7c, he7d, he7e, he7g, he7i]; refine hK _ ?_; clear hK
    obtain ⟨l8, hl8, h⟩ := bindS_some h
    have hl8f : (List.map vb l6).set 0 (vb true) = List.map vb l8 := set_map (f := vb) hl8
    try simp only [Int.toNat_natCast] at hl8f
    refine wps_cons rfl fun K hK => ?_; simp [hN', he7a, he7b, he7c, he7d, he7e, he7g, he7i, hl8f]; refine hK _ ?_; clear hK
    refine wps_nil (hK _ ?_); clear hK
    refine SWp.seqR rfl (hPB _ rfl) fun K hK => ?_
    iterate 2 (refine wps_cons rfl fun K hK => ?_; simp [hN']; refine hK _ ?_; clear hK)
    refine wps_nil (hK _ ?_); clear hK
    obtain ⟨out40, hj9, h⟩ := bind_some h
    refine SWp.seqC [3] [] (fun _ : Unit => ⟨[(3, .t (.sl true 1 (List.map vb out40)))], []⟩) (fun _ => True) (fun _ _ => ?_) fun K10 hK10 => ?_
    rotate_left
    · refine SWp.block ?_
      refine SWp.loopO [] [1, 3, 4] [1] (fun v : (List Bool) × (List Int) => ⟨[(1, .ref (.box 1) 0 []), (3, .t (.sl true 1 (List.map vb v.1))), (4, .t (.sl true 1 (List.map vi v.2)))], [(1, [vs c1.Name, vi c1.Params, .sl false 1 (List.map vi c1.Locals), .sl false 7 (List.map (GIns.enc false) c1.Words)])]⟩) (impl_ReachedWords_l1 c1) _ (l8, [0]) hj9 (by simp [hN']) ?_
      intro g s16 h14 ho15
      obtain ⟨out12, todo13⟩ := g
      simp only [impl_ReachedWords_l1] at h14
      try dsimp only
      refine SWp.seq ?_
      refine SWp.seqR rfl (hPB _ rfl) fun K hK => ?_
      iterate 3 (refine wps_cons rfl fun K hK => ?_; simp [hN']; refine hK _ ?_; clear hK)
      refine wps_nil (hK _ ?_); clear hK
      rcases ite_or h14 with ⟨hb17, h14⟩ | ⟨hb18, h14⟩
      · refine SWp.condT' (b := decide ((todo13.length : Int) > 0)) (by simp) hb17 ?_
        refine SWp.skip ?_
        show SWp E C _ _ _
        refine SWp.block ?_
        refine SWp.seqR rfl (hPB _ rfl) fun K hK => ?_
        refine wps_cons rfl fun K hK => ?_; simp [hN']; refine hK _ ?_; clear hK
        obtain ⟨e19, he19, h14⟩ := bind_some h14
        obtain ⟨he19a, he19b, he19c, he19d⟩ := getI_some he19
        have he19e : 0 < todo13.length := by omega
        have he19g : todo13[0]? = some e19 := he19c
        have he19i : todo13[0] = e19 := he19d he19e
        iterate 3 (refine wps_cons rfl fun K hK => ?_; simp [hN', he19a, he19b, he19c, he19d, he19e, he19g, he19i]; refine hK _ ?_; clear hK)
        refine wps_nil (hK _ ?_); clear hK
        refine SWp.seqR rfl (hPB _ rfl) fun K hK => ?_
        refine wps_cons rfl fun K hK => ?_; simp [hN']; refine hK _ ?_; clear hK
        obtain ⟨l20, hl20, h14⟩ := bind_some h14
        obtain ⟨hl20a, hl20b, hl20c, hl20d, hl20e, hl20g, hl20i, hl20j⟩ := subI_some hl20
        have hl20f : (List.map vi todo13).drop 1 = List.map vi l20 := by subst hl20e; simp
        have hl20m := hl20f; try simp at hl20m
        have hl20k : 1 ≤ todo13.length := by omega
        iterate 2 (refine wps_cons rfl fun K hK => ?_; simp [hN', hl20a, hl20b, hl20c, hl20d, hl20f, hl20g, hl20i, hl20j, hl20m, hl20k]; refine hK _ ?_; clear hK)
        refine wps_nil (hK _ ?_); clear hK
        refine SWp.seqR rfl (hPB _ rfl) fun K hK => ?_
        iterate 2 (refine wps_cons rfl fun K hK => ?_; simp [hN']; refine hK _ ?_; clear hK)
        obtain ⟨r21, hc22, h14⟩ := bind_some h14
        refine wps_call [(.take, .tmp 26), (.take, .tmp 27)] rfl rfl ent51 (impl_Next_ok _ _ hc22) fun K hK => ?_; simp [hN']; refine hK _ ?_; clear hK
        iterate 2 (refine wps_cons rfl fun K hK => ?_; simp [hN']; refine hK _ ?_; clear hK)
        refine wps_nil (hK _ ?_); clear hK
        refine SWp.block ?_
        refine SWp.loopO [] [1, 3, 4, 28, 29, 30] [1] (fun v : (List Bool) × (List Int) × Int => ⟨[(1, .ref (.box 1) 0 []), (3, .t (.sl true 1 (List.map vb v.1))), (4, .t (.sl true 1 (List.map vi v.2.1))), (28, .t (.sl true 1 (List.map vi r21))), (29, .t (vi (r21.length : Int))), (30, .t (vi v.2.2))], [(1, [vs c1.Name, vi c1.Params, .sl false 1 (List.map vi c1.Locals), .sl false 7 (List.map (GIns.enc false) c1.Words)])]⟩) (impl_ReachedWords_l2 r21) _ (out12, l20, 0) h14 (by simp [hN']) ?_
        intro g s28 h26 ho27
        obtain ⟨out23, todo24, v25⟩ := g
        simp only [impl_ReachedWords_l2] at h26
        try dsimp only
        refine SWp.seqR rfl (hPB _ rfl) fun K hK => ?_
        refine wps_cons rfl fun K hK => ?_; simp [hN']; refine hK _ ?_; clear hK
        refine wps_nil (hK _ ?_); clear hK
        refine SWp.seq ?_
        rcases ite_or h26 with ⟨hb29, h26⟩ | ⟨hb30, h26⟩
        · refine SWp.condT' (b := decide (v25 < (r21.length : Int))) (by simp) hb29 ?_
          refine SWp.skip ?_
          show SWp E C _ _ _
          refine SWp.seq ?_
          refine SWp.block ?_
          refine SWp.seqR rfl (hPB _ rfl) fun K hK => ?_
          obtain ⟨e31, he31, h26⟩ := bind_some h26
          obtain ⟨he31a, he31b, he31c, he31d⟩ := getI_some he31
          iterate 3 (refine wps_cons rfl fun K hK => ?_; simp [hN', he31a, he31b, he31c, he31d]; refine hK _ ?_; clear hK)
          refine wps_nil (hK _ ?_); clear hK
          refine SWp.seqR rfl (hPB _ rfl) fun K hK => ?_
          iterate 2 (refine wps_cons rfl fun K hK => ?_; simp [hN']; refine hK _ ?_; clear hK)
          obtain ⟨e32, he32, h26⟩ := bind_some h26
          obtain ⟨he32a, he32b, he32c, he32d⟩ := getI_some he32
          iterate 3 (refine wps_cons rfl fun K hK => ?_; simp [hN', he32a, he32b, he32c, he32d]; refine hK _ ?_; clear hK)
          refine wps_nil (hK _ ?_); clear hK
          rcases ite_or h26 with ⟨hb33, h26⟩ | ⟨hb34, h26⟩
          · refine SWp.condT' (b := !e32) (by simp) hb33 ?_
            refine SWp.seqR rfl (hPB _ rfl) fun K hK => ?_
            iterate 2 (refine wps_cons rfl fun K hK => ?_; simp [hN']; refine hK _ ?_; clear hK)
            obtain ⟨e35, he35, h26⟩ := bind_some h26
            obtain ⟨he35a, he35b, he35c, he35d⟩ := getI_some he35
            refine wps_cons rfl fun K hK => ?_; simp [hN', he35a, he35b, he35c, he35d]; refine hK _ ?_; clear hK
            obtain ⟨l36, hl36, h26⟩ := bindS_some h26
            have hl36f : (List.map vb out23).set e31.toNat (vb true) = List.map vb l36 := set_map (f := vb) hl36
            try simp only [Int.toNat_natCast] at hl36f
            refine wps_cons rfl fun K hK => ?_; simp [hN', he35a, he35b, he35c, he35d, hl36f]; refine hK _ ?_; clear hK
            refine wps_nil (hK _ ?_); clear hK
            refine SWp.reg rfl (hPB _ rfl) fun K hK => ?_
            iterate 3 (refine wps_cons rfl fun K hK => ?_; simp [hN']; refine hK _ ?_; clear hK)
            obtain ⟨l37, hl37, h26⟩ := bind_some h26
            obtain ⟨hl37a, hl37b, hl37d⟩ := appI_some hl37
            have hl37f : List.map vi todo24 ++ List.map vi [e31] = List.map vi l37 := app_map (f := vi) hl37d
            simp [eSl] at hl37a hl37b hl37f
            iterate 2 (refine wps_cons rfl fun K hK => ?_; simp [hN', hl37a, hl37b, hl37f]; refine hK _ ?_; clear hK)
            refine wps_nil (hK _ ?_); clear hK
            show SWp E C _ _ _
            refine SWp.reg rfl (hPB _ rfl) fun K hK => ?_
            iterate 2 (refine wps_cons rfl fun K hK => ?_; simp [hN']; refine hK _ ?_; clear hK)
            refine wps_nil (hK _ ?_); clear hK
            cases h26
            exact ⟨_, [], rfl, by simp [hN']⟩
          · refine SWp.condF' (b := !e32) (by simp) hb34 ?_
            refine SWp.skip ?_
            show SWp E C _ _ _
            refine SWp.reg rfl (hPB _ rfl) fun K hK => ?_
            iterate 2 (refine wps_cons rfl fun K hK => ?_; simp [hN']; refine hK _ ?_; clear hK)
            refine wps_nil (hK _ ?_); clear hK
            cases h26
            exact ⟨_, [], rfl, by simp [hN']⟩
        · refine SWp.condF' (b := decide (v25 < (r21.length : Int))) (by simp) hb30 ?_
          refine SWp.exit ?_
          have h38 := congrArg some (ho27 _ (Option.some.inj h26).symm)
          cases h38
          exact ⟨_, [], rfl, by simp [hN']⟩
      · refine SWp.condF' (b := decide ((todo13.length : Int) > 0)) (by simp) hb18 ?_
        refine SWp.exit ?_
        have h39 := congrArg some (ho15 _ (Option.some.inj h14).symm)
        cases h39
        exact hK10 _ () [] trivial (by simp [hN'])
    refine SWp.seqR rfl (hPB _ rfl) fun K hK => ?_
    iterate 2 (refine wps_cons rfl fun K hK => ?_; simp [hN']; refine hK _ ?_; clear hK)
    refine wps_nil (hK _ ?_); clear hK
    cases h
    refine SWp.ret ?_
    simp [thenS, inBlockS, res16]
end Go.Proofs.T
set_option linter.unusedVariables false
set_option linter.unusedSimpArgs false
set_option maxHeartbeats 1000000
namespace Go.Proofs.T
open Go.OM
theorem res76 : Tryd.f76.results.toList = [.tmp 6] := rfl
theorem ent76 : Enters E.P 76 := enters_of Tryd.func76 (by simp [Tryd.f76]) rfl
theorem impl_table_ok (rows1 : Int) (columns2 : Int) (is3 : Bool) {r0 : List (List Bool)} (h : impl_table rows1 columns2 is3 = some r0) : Ok E 76 [.val (vi rows1), .val (vi columns2), .val (vb is3)] [.sl true 1 (List.map (eSl true 1 vb) r0)] [] := by
  refine ok_of_body (fn := Tryd.f76) Tryd.func76 rfl (by simp [Tryd.f76]) fun C hN hP => ?_
  have hPB : ∀ l, pinK [] l = true → pinB C.pin l = true := pinB_of (by rw [hP]; rfl)
  have hN' : C.N = 31 := hN
  clear hN
  unfold impl_table at h
  refine SWp.seqR rfl (hPB _ rfl) fun K hK => ?_
  refine wps_cons rfl fun K hK => ?_; simp [hN']; refine hK _ ?_; clear hK
  refine wps_nil (hK _ ?_); clear hK
  refine SWp.seqR rfl (hPB _ rfl) fun K hK => ?_
  refine wps_cons rfl fun K hK => ?_; simp [hN']; refine hK _ ?_; clear hK
  refine wps_nil (hK _ ?_); clear hK
  obtain ⟨out35, hj4, h⟩ := bind_some h
  refine SWp.seqC [7] [] (fun _ : Unit => ⟨[(7, .t (.sl true 1 (List.map (eSl true 1 vb) out35)))], []⟩) (fun _ => True) (fun _ _ => ?_) fun K5 hK5 => ?_
  rotate_left
  · refine SWp.seqR rfl (hPB _ rfl) fun K hK => ?_
    iterate 2 (refine wps_cons rfl fun K hK => ?_; simp [hN']; refine hK _ ?_; clear hK)
    refine wps_nil (hK _ ?_); clear hK
    refine SWp.block ?_
    refine SWp.loopO [] [1, 2, 7, 10, 11] [] (fun v : (List (List Bool)) × Int => ⟨[(1, .t (vi columns2)), (2, .t (vb is3)), (7, .t (.sl true 1 (List.map (eSl true 1 vb) v.1))), (10, .t (vi rows1)), (11, .t (vi v.2))], []⟩) (impl_table_l1 rows1 columns2 is3) _ ([], 0) hj4 (by simp [hN']) ?_
    intro g s11 h9 ho10
    obtain ⟨out7, v8⟩ := g
    simp only [impl_table_l1] at h9
    try dsimp only
    refine SWp.seqR rfl (hPB _ rfl) fun K hK => ?_
    refine wps_cons rfl fun K hK => ?_; simp [hN']; refine hK _ ?_; clear hK
    refine wps_nil (hK _ ?_); clear hK
    refine SWp.seq ?_
    rcases ite_or h9 with ⟨hb12, h9⟩ | ⟨hb13, h9⟩
    · refine SWp.condT' (b := decide (v8 < rows1)) (by simp) hb12 ?_
      refine SWp.skip ?_
      show SWp E C _ _ _
      obtain ⟨out33, hj14, h9⟩ := bind_some h9
      refine SWp.seqC [1, 2, 7, 10, 11] [] (fun _ : Unit => ⟨[(1, .t (vi columns2)), (2, .t (vb is3)), (7, .t (.sl true 1 (List.map (eSl true 1 vb) out33))), (10, .t (vi rows1)), (11, .t (vi v8))], []⟩) (fun _ => True) (fun _ _ => ?_) fun K15 hK15 => ?_
      rotate_left
      · refine SWp.block ?_
        refine SWp.seqR rfl (hPB _ rfl) fun K hK => ?_
        refine wps_cons rfl fun K hK => ?_; simp [hN']; refine hK _ ?_; clear hK
        obtain ⟨l17, hl17, hj14⟩ := bind_some hj14
        obtain ⟨hl17a, hl17b, hl17c, hl17d⟩ := mkI_some hl17
        have hl17f : List.replicate columns2.toNat (vb false) = List.map vb l17 := rep_map (f := vb) hl17d
        try simp only [Int.toNat_natCast] at hl17f
        iterate 2 (refine wps_cons rfl fun K hK => ?_; simp [hN', hl17a, hl17b, hl17c, hl17f]; refine hK _ ?_; clear hK)
        refine wps_nil (hK _ ?_); clear hK
        obtain ⟨row31, hj18, hj14⟩ := bind_some hj14
        refine SWp.seqC [1, 2, 7, 8, 10, 11] [] (fun _ : Unit => ⟨[(1, .t (vi columns2)), (2, .t (vb is3)), (7, .t (.sl true 1 (List.map (eSl true 1 vb) out7))), (8, .t (.sl true 1 (List.map vb row31))), (10, .t (vi rows1)), (11, .t (vi v8))], []⟩) (fun _ => True) (fun _ _ => ?_) fun K19 hK19 => ?_
        rotate_left
        · refine SWp.seqR rfl (hPB _ rfl) fun K hK => ?_
          iterate 3 (refine wps_cons rfl fun K hK => ?_; simp [hN']; refine hK _ ?_; clear hK)
          refine wps_nil (hK _ ?_); clear hK
          refine SWp.block ?_
          refine SWp.loopO [] [1, 2, 7, 8, 10, 11, 16, 17] [] (fun v : (List Bool) × Int => ⟨[(1, .t (vi columns2)), (2, .t (vb is3)), (7, .t (.sl true 1 (List.map (eSl true 1 vb) out7))), (8, .t (.sl true 1 (List.map vb v.1))), (10, .t (vi rows1)), (11, .t (vi v8)), (16, .t (vi (l17.length : Int))), (17, .t (vi v.2))], []⟩) (impl_table_l2 is3 l17) _ (l17, 0) hj18 (by simp [hN']) ?_
          intro g s25 h23 ho24
          obtain ⟨row21, v22⟩ := g
          simp only [impl_table_l2] at h23
          try dsimp only
          refine SWp.seqR rfl (hPB _ rfl) fun K hK => ?_
          refine wps_cons rfl fun K hK => ?_; simp [hN']; refine hK _ ?_; clear hK
          refine wps_nil (hK _ ?_); clear hK
          refine SWp.seq ?_
          rcases ite_or h23 with ⟨hb26, h23⟩ | ⟨hb27, h23⟩
          · refine SWp.condT' (b := decide (v22 < (l17.length : Int))) (by simp) hb26 ?_
            refine SWp.skip ?_
            show SWp E C _ _ _
            refine SWp.seq ?_
            refine SWp.block ?_
            refine SWp.seqR rfl (hPB _ rfl) fun K hK => ?_
            iterate 2 (refine wps_cons rfl fun K hK => ?_; simp [hN']; refine hK _ ?_; clear hK)
            refine wps_nil (hK _ ?_); clear hK
            refine SWp.reg rfl (hPB _ rfl) fun K hK => ?_
            iterate 3 (refine wps_cons rfl fun K hK => ?_; simp [hN']; refine hK _ ?_; clear hK)
            obtain ⟨e28, he28, h23⟩ := bind_some h23
            obtain ⟨he28a, he28b, he28c, he28d⟩ := getI_some he28
            refine wps_cons rfl fun K hK => ?_; simp [hN', he28a, he28b, he28c, he28d]; refine hK _ ?_; clear hK
            obtain ⟨l29, hl29, h23⟩ := bindS_some h23
            have hl29f : (List.map vb row21).set v22.toNat (vb is3) = List.map vb l29 := set_map (f := vb) hl29
            try simp only [Int.toNat_natCast] at hl29f
            refine wps_cons rfl fun K hK => ?_; simp [hN', he28a, he28b, he28c, he28d, hl29f]; refine hK _ ?_; clear hK
            refine wps_nil (hK _ ?_); clear hK
            show SWp E C _ _ _
            refine SWp.reg rfl (hPB _ rfl) fun K hK => ?_
            iterate 2 (refine wps_cons rfl fun K hK => ?_; simp [hN']; refine hK _ ?_; clear hK)
            refine wps_nil (hK _ ?_); clear hK
            cases h23
            exact ⟨_, [], rfl, by simp [hN']⟩
          · refine SWp.condF' (b := decide (v22 < (l17.length : Int))) (by simp) hb27 ?_
            refine SWp.exit ?_
            have h30 := congrArg some (ho24 _ (Option.some.inj h23).symm)
            cases h30
            exact hK19 _ () [] trivial (by simp [hN'])
        refine SWp.reg rfl (hPB _ rfl) fun K hK => ?_
        iterate 3 (refine wps_cons rfl fun K hK => ?_; simp [hN']; refine hK _ ?_; clear hK)
        obtain ⟨l32, hl32, hj14⟩ := bind_some hj14
        obtain ⟨hl32a, hl32b, hl32d⟩ := appI_some hl32
        have hl32f : List.map (eSl true 1 vb) out7 ++ List.map (eSl true 1 vb) [row31] = List.map (eSl true 1 vb) l32 := app_map (f := (eSl true 1 vb)) hl32d
        simp [eSl, eSl] at hl32a hl32b hl32f
        iterate 2 (refine wps_cons rfl fun K hK => ?_; simp [hN', hl32a, hl32b, hl32f]; refine hK _ ?_; clear hK)
        refine wps_nil (hK _ ?_); clear hK
        cases hj14
        exact hK15 _ () [] trivial (by simp [hN'])
      refine SWp.reg rfl (hPB _ rfl) fun K hK => ?_
      iterate 2 (refine wps_cons rfl fun K hK => ?_; simp [hN']; refine hK _ ?_; clear hK)
      refine wps_nil (hK _ ?_); clear hK
      cases h9
      exact ⟨_, [], rfl, by simp [hN']⟩
    · refine SWp.condF' (b := decide (v8 < rows1)) (by simp) hb13 ?_
      refine SWp.exit ?_
      have h34 := congrArg some (ho10 _ (Option.some.inj h9).symm)
      cases h34
      exact hK5 _ () [] trivial (by simp [hN'])
  refine SWp.seqR rfl (hPB _ rfl) fun K hK => ?_
  iterate 2 (refine wps_cons rfl fun K hK => ?_; simp [hN']; refine hK _ ?_; clear hK)
  refine wps_nil (hK _ ?_); clear hK
  cases h
  refine SWp.ret ?_
  simp [thenS, inBlockS, res76]
end Go.Proofs.T
set_option linter.unusedVariables false
set_option linter.unusedSimpArgs false
set_option maxHeartbeats 1000000
namespace Go.Proofs.T
open Go.OM
theorem res103 : Tryd.f103.results.toList = [.tmp 2] := rfl
theorem ent103 : Enters E.P 103 := enters_of Tryd.func103 (by simp [Tryd.f103]) rfl
theorem impl_Writes_ok (x1 : GIns) {r0 : Int} (h : impl_Writes x1 = some r0) : Ok E 103 [.val (GIns.enc false x1)] [vi r0] [] := by
  refine ok_of_body (fn := Tryd.f103) Tryd.func103 rfl (by simp [Tryd.f103]) fun C hN hP => ?_
  have hPB : ∀ l, pinK [] l = true → pinB C.pin l = true := pinB_of (by rw [hP]; rfl)
  have hN' : C.N = 8 := hN
  clear hN
  unfold impl_Writes at h
  refine SWp.seqR rfl (hPB _ rfl) fun K hK => ?_
  iterate 2 (refine wps_cons rfl fun K hK => ?_; simp [hN']; refine hK _ ?_; clear hK)
  refine wps_nil (hK _ ?_); clear hK
  refine SWp.seq ?_
  refine SWp.seqR rfl (hPB _ rfl) fun K hK => ?_
  iterate 2 (refine wps_cons rfl fun K hK => ?_; simp [hN']; refine hK _ ?_; clear hK)
  obtain ⟨r2, hc3, h⟩ := bind_some h
  refine wps_call [(.take, .tmp 4), (.take, .const (.int .i64 1)), (.take, .const (.int .i64 14))] rfl rfl ent66 (impl_in_ok _ _ _ hc3) fun K hK => ?_; simp [hN']; refine hK _ ?_; clear hK
  refine wps_nil (hK _ ?_); clear hK
  rcases ite_or h with ⟨hb4, h⟩ | ⟨hb5, h⟩
  · refine SWp.condT' (b := r2) (by simp) hb4 ?_
    refine SWp.seqR rfl (hPB _ rfl) fun K hK => ?_
    iterate 3 (refine wps_cons rfl fun K hK => ?_; simp [hN']; refine hK _ ?_; clear hK)
    refine wps_nil (hK _ ?_); clear hK
    cases h
    refine SWp.ret ?_
    simp [thenS, inBlockS, res103]
  · refine SWp.condF' (b := r2) (by simp) hb5 ?_
    refine SWp.skip ?_
    show SWp E C _ _ _
    refine SWp.seqR rfl (hPB _ rfl) fun K hK => ?_
    refine wps_cons rfl fun K hK => ?_; simp [hN']; refine hK _ ?_; clear hK
    refine wps_nil (hK _ ?_); clear hK
    cases h
    refine SWp.ret ?_
    simp [thenS, inBlockS, res103]
end Go.Proofs.T
set_option linter.unusedVariables false
set_option linter.unusedSimpArgs false
set_option maxHeartbeats 1000000
namespace Go.Proofs.T
open Go.OM
theorem res77 : Tryd.f77.results.toList = [.tmp 4] := rfl
theorem ent77 : Enters E.P 77 := enters_of Tryd.func77 (by simp [Tryd.f77]) rfl
theorem impl_behind_ok (x1 : GIns) (row2 : List Bool) {r0 : List Bool} (h : impl_behind x1 row2 = some r0) : Ok E 77 [.val (GIns.enc false x1), .val (.sl false 1 (List.map vb row2))] [.sl true 1 (List.map vb r0)] [] := by
  refine ok_of_body (fn := Tryd.f77) Tryd.func77 rfl (by simp [Tryd.f77]) fun C hN hP => ?_
  have hPB : ∀ l, pinK [] l = true → pinB C.pin l = true := pinB_of (by rw [hP]; rfl)
  have hN' : C.N = 47 := hN
  clear hN
  unfold impl_behind at h
  refine SWp.seqR rfl (hPB _ rfl) fun K hK => ?_
  iterate 2 (refine wps_cons rfl fun K hK => ?_; simp [hN']; refine hK _ ?_; clear hK)
  refine wps_nil (hK _ ?_); clear hK
  refine SWp.seqR rfl (hPB _ rfl) fun K hK => ?_
  refine wps_cons rfl fun K hK => ?_; simp [hN']; refine hK _ ?_; clear hK
  obtain ⟨l3, hl3, h⟩ := bind_some h
  obtain ⟨hl3a, hl3b, hl3d⟩ := appI_some hl3
  simp [eSl] at hl3a hl3b
  iterate 2 (refine wps_cons rfl fun K hK => ?_; simp [hN', hl3a, hl3b]; refine hK _ ?_; clear hK)
  refine wps_nil (hK _ ?_); clear hK
  obtain ⟨out34, hj4, h⟩ := bind_some h
  refine SWp.seqC [2, 5] [2] (fun _ : Unit => ⟨[(2, .ref (.box 2) 0 []), (5, .t (.sl true 1 (List.map vb out34)))], [(2, [vi x1.Op, vi x1.A, vi x1.B, vi x1.C, vi x1.Num, vs x1.Name, .sl false 1 (List.map vi x1.Args)])]⟩) (fun _ => True) (fun _ _ => ?_) fun K5 hK5 => ?_
  rotate_left
  · refine SWp.seqR rfl (hPB _ rfl) fun K hK => ?_
    iterate 2 (refine wps_cons rfl fun K hK => ?_; simp [hN']; refine hK _ ?_; clear hK)
    refine wps_nil (hK _ ?_); clear hK
    refine SWp.block ?_
    obtain ⟨v12, hj7, hj4⟩ := bind_some hj4
    refine SWp.seqC [2, 5, 12, 13] [2] (fun _ : Unit => ⟨[(2, .ref (.box 2) 0 []), (5, .t (.sl true 1 (List.map vb row2))), (12, .t (vi x1.Op)), (13, .t (vb v12))], [(2, [vi x1.Op, vi x1.A, vi x1.B, vi x1.C, vi x1.Num, vs x1.Name, .sl false 1 (List.map vi x1.Args)])]⟩) (fun _ => True) (fun _ _ => ?_) fun K8 hK8 => ?_
    rotate_left
    · refine SWp.seqR rfl (hPB _ rfl) fun K hK => ?_
      iterate 2 (refine wps_cons rfl fun K hK => ?_; simp [hN']; refine hK _ ?_; clear hK)
      refine wps_nil (hK _ ?_); clear hK
      rcases ite_or hj7 with ⟨hb10, hj7⟩ | ⟨hb11, hj7⟩
      · refine SWp.condT' (b := x1.Op == 3) (by simp) hb10 ?_
        refine SWp.skip ?_
        cases hj7
        exact hK8 _ () [] trivial (by simp [hN'])
      · refine SWp.condF' (b := x1.Op == 3) (by simp) hb11 ?_
        refine SWp.reg rfl (hPB _ rfl) fun K hK => ?_
        iterate 2 (refine wps_cons rfl fun K hK => ?_; simp [hN']; refine hK _ ?_; clear hK)
        refine wps_nil (hK _ ?_); clear hK
        cases hj7
        exact hK8 _ () [] trivial (by simp [hN'])
    rcases ite_or hj4 with ⟨hb13, hj4⟩ | ⟨hb14, hj4⟩
    · refine SWp.condT' (b := v12) (by simp) hb13 ?_
      refine SWp.reg rfl (hPB _ rfl) fun K hK => ?_
      iterate 3 (refine wps_cons rfl fun K hK => ?_; simp [hN']; refine hK _ ?_; clear hK)
      obtain ⟨e15, he15, hj4⟩ := bind_some hj4
      obtain ⟨he15a, he15b, he15c, he15d⟩ := getI_some he15
      have he15j := he15b; try simp at he15j
      try simp only [Int.toNat_natCast] at he15c he15d
      refine wps_cons rfl fun K hK => ?_; simp [hN', he15a, he15b, he15c, he15d, he15j]; refine hK _ ?_; clear hK
      obtain ⟨l16, hl16, hj4⟩ := bindS_some hj4
      have hl16f : (List.map vb row2).set x1.B.toNat (vb false) = List.map vb l16 := set_map (f := vb) hl16
      try simp only [Int.toNat_natCast] at hl16f
      refine wps_cons rfl fun K hK => ?_; simp [hN', he15a, he15b, he15c, he15d, he15j, hl16f]; refine hK _ ?_; clear hK
      refine wps_nil (hK _ ?_); clear hK
      cases hj4
      exact hK5 _ () [] trivial (by simp [hN'])
    · refine SWp.condF' (b := v12) (by simp) hb14 ?_
      refine SWp.seqR rfl (hPB _ rfl) fun K hK => ?_
      iterate 2 (refine wps_cons rfl fun K hK => ?_; simp [hN']; refine hK _ ?_; clear hK)
      refine wps_nil (hK _ ?_); clear hK
      rcases ite_or hj4 with ⟨hb17, hj4⟩ | ⟨hb18, hj4⟩
      · refine SWp.condT' (b := x1.Op == 13) (by simp) hb17 ?_
        refine SWp.seqR rfl (hPB _ rfl) fun K hK => ?_
        iterate 4 (refine wps_cons rfl fun K hK => ?_; simp [hN']; refine hK _ ?_; clear hK)
        refine wps_nil (hK _ ?_); clear hK
        refine SWp.block ?_
        refine SWp.loopO [] [2, 5, 23, 24, 25] [2] (fun v : (List Bool) × Int => ⟨[(2, .ref (.box 2) 0 []), (5, .t (.sl true 1 (List.map vb v.1))), (23, .t (.sl false 1 (List.map vi x1.Args))), (24, .t (vi (x1.Args.length : Int))), (25, .t (vi v.2))], [(2, [vi x1.Op, vi x1.A, vi x1.B, vi x1.C, vi x1.Num, vs x1.Name, .sl false 1 (List.map vi x1.Args)])]⟩) (impl_behind_l1 x1) _ (row2, 0) hj4 (by simp [hN']) ?_
        intro g s23 h21 ho22
        obtain ⟨out19, v20⟩ := g
        simp only [impl_behind_l1] at h21
        try dsimp only
        refine SWp.seqR rfl (hPB _ rfl) fun K hK => ?_
        refine wps_cons rfl fun K hK => ?_; simp [hN']; refine hK _ ?_; clear hK
        refine wps_nil (hK _ ?_); clear hK
        refine SWp.seq ?_
        rcases ite_or h21 with ⟨hb24, h21⟩ | ⟨hb25, h21⟩
        · refine SWp.condT' (b := decide (v20 < (x1.Args.length : Int))) (by simp) hb24 ?_
          refine SWp.skip ?_
          show SWp E C _ _ _
          refine SWp.seq ?_
          refine SWp.block ?_
          refine SWp.seqR rfl (hPB _ rfl) fun K hK => ?_
          obtain ⟨e26, he26, h21⟩ := bind_some h21
          obtain ⟨he26a, he26b, he26c, he26d⟩ := getI_some he26
          iterate 3 (refine wps_cons rfl fun K hK => ?_; simp [hN', he26a, he26b, he26c, he26d]; refine hK _ ?_; clear hK)
          refine wps_nil (hK _ ?_); clear hK
          refine SWp.reg rfl (hPB _ rfl) fun K hK => ?_
          iterate 2 (refine wps_cons rfl fun K hK => ?_; simp [hN']; refine hK _ ?_; clear hK)
          obtain ⟨e27, he27, h21⟩ := bind_some h21
          obtain ⟨he27a, he27b, he27c, he27d⟩ := getI_some he27
          refine wps_cons rfl fun K hK => ?_; simp [hN', he27a, he27b, he27c, he27d]; refine hK _ ?_; clear hK
          obtain ⟨l28, hl28, h21⟩ := bindS_some h21
          have hl28f : (List.map vb out19).set e26.toNat (vb false) = List.map vb l28 := set_map (f := vb) hl28
          try simp only [Int.toNat_natCast] at hl28f
          refine wps_cons rfl fun K hK => ?_; simp [hN', he27a, he27b, he27c, he27d, hl28f]; refine hK _ ?_; clear hK
          refine wps_nil (hK _ ?_); clear hK
          show SWp E C _ _ _
          refine SWp.reg rfl (hPB _ rfl) fun K hK => ?_
          iterate 2 (refine wps_cons rfl fun K hK => ?_; simp [hN']; refine hK _ ?_; clear hK)
          refine wps_nil (hK _ ?_); clear hK
          cases h21
          exact ⟨_, [], rfl, by simp [hN']⟩
        · refine SWp.condF' (b := decide (v20 < (x1.Args.length : Int))) (by simp) hb25 ?_
          refine SWp.exit ?_
          have h29 := congrArg some (ho22 _ (Option.some.inj h21).symm)
          cases h29
          exact hK5 _ () [] trivial (by simp [hN'])
      · refine SWp.condF' (b := x1.Op == 13) (by simp) hb18 ?_
        refine SWp.seqR rfl (hPB _ rfl) fun K hK => ?_
        iterate 2 (refine wps_cons rfl fun K hK => ?_; simp [hN']; refine hK _ ?_; clear hK)
        refine wps_nil (hK _ ?_); clear hK
        rcases ite_or hj4 with ⟨hb30, hj4⟩ | ⟨hb31, hj4⟩
        · refine SWp.condT' (b := x1.Op == 17) (by simp) hb30 ?_
          refine SWp.reg rfl (hPB _ rfl) fun K hK => ?_
          iterate 3 (refine wps_cons rfl fun K hK => ?_; simp [hN']; refine hK _ ?_; clear hK)
          obtain ⟨e32, he32, hj4⟩ := bind_some hj4
          obtain ⟨he32a, he32b, he32c, he32d⟩ := getI_some he32
          have he32j := he32b; try simp at he32j
          try simp only [Int.toNat_natCast] at he32c he32d
          refine wps_cons rfl fun K hK => ?_; simp [hN', he32a, he32b, he32c, he32d, he32j]; refine hK _ ?_; clear hK
          obtain ⟨l33, hl33, hj4⟩ := bindS_some hj4
          have hl33f : (List.map vb row2).set x1.A.toNat (vb false) = List.map vb l33 := set_map (f := vb) hl33
          try simp only [Int.toNat_natCast] at hl33f
          refine wps_cons rfl fun K hK => ?_; simp [hN', he32a, he32b, he32c, he32d, he32j, hl33f]; refine hK _ ?_; clear hK
          refine wps_nil (hK _ ?_); clear hK
          cases hj4
          exact hK5 _ () [] trivial (by simp [hN'])
        · refine SWp.condF' (b := x1.Op == 17) (by simp) hb31 ?_
          refine SWp.skip ?_
          cases hj4
          exact hK5 _ () [] trivial (by simp [hN'])
  refine SWp.seq ?_
  refine SWp.seqR rfl (hPB _ rfl) fun K hK => ?_
  refine wps_cons rfl fun K hK => ?_; simp [hN']; refine hK _ ?_; clear hK
  obtain ⟨r35, hc36, h⟩ := bind_some h
  refine wps_call [(.take, .tmp 39)] rfl rfl ent103 (impl_Writes_ok _ hc36) fun K hK => ?_; simp [hN']; refine hK _ ?_; clear hK
  refine wps_cons rfl fun K hK => ?_; simp [hN']; refine hK _ ?_; clear hK
  refine wps_nil (hK _ ?_); clear hK
  refine SWp.seqR rfl (hPB _ rfl) fun K hK => ?_
  iterate 2 (refine wps_cons rfl fun K hK => ?_; simp [hN']; refine hK _ ?_; clear hK)
  refine wps_nil (hK _ ?_); clear hK
  rcases ite_or h with ⟨hb37, h⟩ | ⟨hb38, h⟩
  · refine SWp.condT' (b := decide (r35 ≥ 0)) (by simp) hb37 ?_
    refine SWp.reg rfl (hPB _ rfl) fun K hK => ?_
    iterate 2 (refine wps_cons rfl fun K hK => ?_; simp [hN']; refine hK _ ?_; clear hK)
    obtain ⟨e39, he39, h⟩ := bind_some h
    obtain ⟨he39a, he39b, he39c, he39d⟩ := getI_some he39
    refine wps_cons rfl fun K hK => ?_; simp [hN', he39a, he39b, he39c, he39d]; refine hK _ ?_; clear hK
    obtain ⟨l40, hl40, h⟩ := bindS_some h
    have hl40f : (List.map vb out34).set r35.toNat (vb true) = List.map vb l40 := set_map (f := vb) hl40
    try simp only [Int.toNat_natCast] at hl40f
    refine wps_cons rfl fun K hK => ?_; simp [hN', he39a, he39b, he39c, he39d, hl40f]; refine hK _ ?_; clear hK
    refine wps_nil (hK _ ?_); clear hK
    show SWp E C _ _ _
    refine SWp.seqR rfl (hPB _ rfl) fun K hK => ?_
    iterate 2 (refine wps_cons rfl fun K hK => ?_; simp [hN']; refine hK _ ?_; clear hK)
    refine wps_nil (hK _ ?_); clear hK
    cases h
    refine SWp.ret ?_
    simp [thenS, inBlockS, res77]
  · refine SWp.condF' (b := decide (r35 ≥ 0)) (by simp) hb38 ?_
    refine SWp.skip ?_
    show SWp E C _ _ _
    refine SWp.seqR rfl (hPB _ rfl) fun K hK => ?_
    iterate 2 (refine wps_cons rfl fun K hK => ?_; simp [hN']; refine hK _ ?_; clear hK)
    refine wps_nil (hK _ ?_); clear hK
    cases h
    refine SWp.ret ?_
    simp [thenS, inBlockS, res77]
end Go.Proofs.T
set_option linter.unusedVariables false
set_option linter.unusedSimpArgs false
set_option maxHeartbeats 1000000
namespace Go.Proofs.T
open Go.OM
theorem res37 : Tryd.f37.results.toList = [.tmp 2] := rfl
theorem ent37 : Enters E.P 37 := enters_of Tryd.func37 (by simp [Tryd.f37]) rfl
theorem impl_HasAt_ok (c1 : GCode) {r0 : List (List Bool)} (h : impl_HasAt c1 = some r0) : Ok E 37 [.val (GCode.enc false c1)] [.sl true 1 (List.map (eSl true 1 vb) r0)] [] := by
  refine ok_of_body (fn := Tryd.f37) Tryd.func37 rfl (by simp [Tryd.f37]) fun C hN hP => ?_
  have hPB : ∀ l, pinK [] l = true → pinB C.pin l = true := pinB_of (by rw [hP]; rfl)
  have hN' : C.N = 98 := hN
  clear hN
  unfold impl_HasAt at h
  refine SWp.seqR rfl (hPB _ rfl) fun K hK => ?_
  iterate 2 (refine wps_cons rfl fun K hK => ?_; simp [hN']; refine hK _ ?_; clear hK)
  refine wps_nil (hK _ ?_); clear hK
  refine SWp.seq ?_
  refine SWp.seqR rfl (hPB _ rfl) fun K hK => ?_
  refine wps_cons rfl fun K hK => ?_; simp [hN']; refine hK _ ?_; clear hK
  obtain ⟨r2, hc3, h⟩ := bind_some h
  refine wps_call [(.take, .tmp 14)] rfl rfl ent50 (impl_CodeOk_ok _ hc3) fun K hK => ?_; simp [hN']; refine hK _ ?_; clear hK
  refine wps_cons rfl fun K hK => ?_; simp [hN']; refine hK _ ?_; clear hK
  refine wps_nil (hK _ ?_); clear hK
  rcases ite_or h with ⟨hb4, h⟩ | ⟨hb5, h⟩
  · refine SWp.condT' (b := !r2) (by simp) hb4 ?_
    refine SWp.seqR rfl (hPB _ rfl) fun K hK => ?_
    refine wps_cons rfl fun K hK => ?_; simp [hN']; refine hK _ ?_; clear hK
    refine wps_nil (hK _ ?_); clear hK
    cases h
    refine SWp.ret ?_
    simp [thenS, inBlockS, res37]
  · refine SWp.condF' (b := !r2) (by simp) hb5 ?_
    refine SWp.skip ?_
    show SWp E C _ _ _
    refine SWp.seqR rfl (hPB _ rfl) fun K hK => ?_
    iterate 6 (refine wps_cons rfl fun K hK => ?_; simp [hN']; refine hK _ ?_; clear hK)
    obtain ⟨r6, hc7, h⟩ := bind_some h
    refine wps_call [(.take, .tmp 19), (.take, .tmp 22), (.take, .const (.bool true))] rfl rfl ent76 (impl_table_ok _ _ _ hc7) fun K hK => ?_; simp [hN']; refine hK _ ?_; clear hK
    refine wps_cons rfl fun K hK => ?_; simp [hN']; refine hK _ ?_; clear hK
    refine wps_nil (hK _ ?_); clear hK
    obtain ⟨out24, hj8, h⟩ := bind_some h
    refine SWp.seqC [1, 3] [1] (fun _ : Unit => ⟨[(1, .ref (.box 1) 0 []), (3, .t (.sl true 1 (List.map (eSl true 1 vb) out24)))], [(1, [vs c1.Name, vi c1.Params, .sl false 1 (List.map vi c1.Locals), .sl false 7 (List.map (GIns.enc false) c1.Words)])]⟩) (fun _ => True) (fun _ _ => ?_) fun K9 hK9 => ?_
    rotate_left
    · refine SWp.seqR rfl (hPB _ rfl) fun K hK => ?_
      iterate 4 (refine wps_cons rfl fun K hK => ?_; simp [hN']; refine hK _ ?_; clear hK)
      refine wps_nil (hK _ ?_); clear hK
      refine SWp.block ?_
      refine SWp.loopO [] [1, 3, 26, 27] [1] (fun v : (List (List Bool)) × Int => ⟨[(1, .ref (.box 1) 0 []), (3, .t (.sl true 1 (List.map (eSl true 1 vb) v.1))), (26, .t (vi (c1.Locals.length : Int))), (27, .t (vi v.2))], [(1, [vs c1.Name, vi c1.Params, .sl false 1 (List.map vi c1.Locals), .sl false 7 (List.map (GIns.enc false) c1.Words)])]⟩) (impl_HasAt_l1 c1) _ (r6, 0) hj8 (by simp [hN']) ?_
      intro g s15 h13 ho14
      obtain ⟨out11, v12⟩ := g
      simp only [impl_HasAt_l1] at h13
      try dsimp only
      refine SWp.seqR rfl (hPB _ rfl) fun K hK => ?_
      refine wps_cons rfl fun K hK => ?_; simp [hN']; refine hK _ ?_; clear hK
      refine wps_nil (hK _ ?_); clear hK
      refine SWp.seq ?_
      rcases ite_or h13 with ⟨hb16, h13⟩ | ⟨hb17, h13⟩
      · refine SWp.condT' (b := decide (v12 < (c1.Locals.length : Int))) (by simp) hb16 ?_
        refine SWp.skip ?_
        show SWp E C _ _ _
        refine SWp.seq ?_
        refine SWp.block ?_
        refine SWp.seqR rfl (hPB _ rfl) fun K hK => ?_
        iterate 2 (refine wps_cons rfl fun K hK => ?_; simp [hN']; refine hK _ ?_; clear hK)
        refine wps_nil (hK _ ?_); clear hK
        obtain ⟨e19, he19, h13⟩ := bind_some h13
        obtain ⟨he19a, he19b, he19c, he19d⟩ := getI_some he19
        have he19e : 0 < out11.length := by omega
        have he19g : out11[0]? = some e19 := he19c
        have he19i : out11[0] = e19 := he19d he19e
        refine SWp.drawT rfl (hPB _ rfl) [(30, .al (.slot 3) 0 [] none), (31, .ref (.slot 3) 0 [(0, 0)]), (32, .al (.slot 3) 0 [(0, 0)] none), (33, .t (vi v12)), (34, .t (vi v12)), (35, .ref (.box 1) 1 []), (36, .t (vi c1.Params)), (37, .t (vb (decide (v12 < c1.Params))))] [[], [0], [0, 1], [], [], [], [5], [4, 5, 6], [0, 1, 2, 3, 4, 5, 6, 7], [0, 1, 2, 3, 4, 5, 6, 7, 8]] (by simp) (by simp) (by simp [look]) rfl rfl rfl ?_ fun K hK => ?_
        · refine ⟨?_, ?_, ?_, ?_, ?_, ?_, ?_, ?_, trivial⟩
          all_goals (intro τ hbx hb hd hf K hK; try simp [vsAt] at hd; simp [vsAt] at hf; first | (refine wps_cons rfl fun K' hK' => ?_; simp [hN', hbx, hb, hd, hf, he19a, he19b, he19c, he19d, he19e, he19g, he19i]; exact hK' _ (wps_nil (hK _ (by simp [vsAt, hbx, he19a, he19b, he19c, he19d, he19e, he19g, he19i])))))
        obtain ⟨e20, he20, h13⟩ := bind_some h13
        obtain ⟨he20a, he20b, he20c, he20d⟩ := getI_some he20
        refine wps_cons rfl fun K hK => ?_; simp [hN', he19a, he19b, he19c, he19d, he19e, he19g, he19i, he20a, he20b, he20c, he20d]; refine hK _ ?_; clear hK
        obtain ⟨l21, hl21, h13⟩ := bindS_some h13
        have hl21f : (List.map vb e19).set v12.toNat (vb (decide (v12 < c1.Params))) = List.map vb l21 := set_map (f := vb) hl21
        try simp only [Int.toNat_natCast] at hl21f
        obtain ⟨l22, hl22, h13⟩ := bindS_some h13
        have hl22f : (List.map (eSl true 1 vb) out11).set 0 (.sl true 1 (List.map vb l21)) = List.map (eSl true 1 vb) l22 := set_map (f := (eSl true 1 vb)) hl22
        try simp only [Int.toNat_natCast] at hl22f
        refine wps_cons rfl fun K hK => ?_; simp [hN', he19a, he19b, he19c, he19d, he19e, he19g, he19i, he20a, he20b, he20c, he20d, hl21f, hl22f]; refine hK _ ?_; clear hK
        refine wps_nil (hK _ ?_); clear hK
        show SWp E C _ _ _
        refine SWp.reg rfl (hPB _ rfl) fun K hK => ?_
        iterate 2 (refine wps_cons rfl fun K hK => ?_; simp [hN']; refine hK _ ?_; clear hK)
        refine wps_nil (hK _ ?_); clear hK
        cases h13
        exact ⟨_, [], rfl, by simp [hN']⟩
      · refine SWp.condF' (b := decide (v12 < (c1.Locals.length : Int))) (by simp) hb17 ?_
        refine SWp.exit ?_
        have h23 := congrArg some (ho14 _ (Option.some.inj h13).symm)
        cases h23
        exact hK9 _ () [] trivial (by simp [hN'])
    refine SWp.seqR rfl (hPB _ rfl) fun K hK => ?_
    refine wps_cons rfl fun K hK => ?_; simp [hN']; refine hK _ ?_; clear hK
    obtain ⟨r25, hc26, h⟩ := bind_some h
    refine wps_call [(.take, .tmp 40)] rfl rfl ent16 (impl_ReachedWords_ok _ hc26) fun K hK => ?_; simp [hN']; refine hK _ ?_; clear hK
    refine wps_cons rfl fun K hK => ?_; simp [hN']; refine hK _ ?_; clear hK
    refine wps_nil (hK _ ?_); clear hK
    obtain ⟨out100, hj27, h⟩ := bind_some h
    refine SWp.seqC [3] [] (fun _ : Unit => ⟨[(3, .t (.sl true 1 (List.map (eSl true 1 vb) out100)))], []⟩) (fun _ => True) (fun _ _ => ?_) fun K28 hK28 => ?_
    rotate_left
    · refine SWp.seqR rfl (hPB _ rfl) fun K hK => ?_
      refine wps_cons rfl fun K hK => ?_; simp [hN']; refine hK _ ?_; clear hK
      refine wps_nil (hK _ ?_); clear hK
      refine SWp.block ?_
      refine SWp.loopO [] [1, 3, 5, 6] [1] (fun v : (List (List Bool)) × Bool => ⟨[(1, .ref (.box 1) 0 []), (3, .t (.sl true 1 (List.map (eSl true 1 vb) v.1))), (5, .t (.sl true 1 (List.map vb r25))), (6, .t (vb v.2))], [(1, [vs c1.Name, vi c1.Params, .sl false 1 (List.map vi c1.Locals), .sl false 7 (List.map (GIns.enc false) c1.Words)])]⟩) (impl_HasAt_l2 c1 r25) _ (out24, true) hj27 (by simp [hN']) ?_
      intro g s34 h32 ho33
      obtain ⟨out30, more31⟩ := g
      simp only [impl_HasAt_l2] at h32
      try dsimp only
      refine SWp.seq ?_
      refine SWp.seqR rfl (hPB _ rfl) fun K hK => ?_
      refine wps_cons rfl fun K hK => ?_; simp [hN']; refine hK _ ?_; clear hK
      refine wps_nil (hK _ ?_); clear hK
      rcases ite_or h32 with ⟨hb35, h32⟩ | ⟨hb36, h32⟩
      · refine SWp.condT' (b := more31) (by simp) hb35 ?_
        refine SWp.skip ?_
        show SWp E C _ _ _
        refine SWp.block ?_
        refine SWp.seqR rfl (hPB _ rfl) fun K hK => ?_
        refine wps_cons rfl fun K hK => ?_; simp [hN']; refine hK _ ?_; clear hK
        refine wps_nil (hK _ ?_); clear hK
        refine SWp.seqR rfl (hPB _ rfl) fun K hK => ?_
        iterate 4 (refine wps_cons rfl fun K hK => ?_; simp [hN']; refine hK _ ?_; clear hK)
        refine wps_nil (hK _ ?_); clear hK
        refine SWp.block ?_
        refine SWp.loopO [] [1, 3, 5, 6, 44, 45, 46] [1] (fun v : (List (List Bool)) × Bool × Int => ⟨[(1, .ref (.box 1) 0 []), (3, .t (.sl true 1 (List.map (eSl true 1 vb) v.1))), (5, .t (.sl true 1 (List.map vb r25))), (6, .t (vb v.2.1)), (44, .t (.sl false 7 (List.map (GIns.enc false) c1.Words))), (45, .t (vi (c1.Words.length : Int))), (46, .t (vi v.2.2))], [(1, [vs c1.Name, vi c1.Params, .sl false 1 (List.map vi c1.Locals), .sl false 7 (List.map (GIns.enc false) c1.Words)])]⟩) (impl_HasAt_l3 c1 r25) _ (out30, false, 0) h32 (by simp [hN']) ?_
        intro g s42 h40 ho41
        obtain ⟨out37, more38, v39⟩ := g
        simp only [impl_HasAt_l3] at h40
        try dsimp only
        refine SWp.seqR rfl (hPB _ rfl) fun K hK => ?_
        refine wps_cons rfl fun K hK => ?_; simp [hN']; refine hK _ ?_; clear hK
        refine wps_nil (hK _ ?_); clear hK
        refine SWp.seq ?_
        rcases ite_or h40 with ⟨hb43, h40⟩ | ⟨hb44, h40⟩
        · refine SWp.condT' (b := decide (v39 < (c1.Words.length : Int))) (by simp) hb43 ?_
          refine SWp.skip ?_
          show SWp E C _ _ _
          obtain ⟨⟨out96, more97⟩, hj45, h40⟩ := bind_some h40
          try dsimp only at h40
          refine SWp.seqC [1, 3, 5, 6, 44, 45, 46] [1] (fun _ : Unit => ⟨[(1, .ref (.box 1) 0 []), (3, .t (.sl true 1 (List.map (eSl true 1 vb) out96))), (5, .t (.sl true 1 (List.map vb r25))), (6, .t (vb more97)), (44, .t (.sl false 7 (List.map (GIns.enc false) c1.Words))), (45, .t (vi (c1.Words.length : Int))), (46, .t (vi v39))], [(1, [vs c1.Name, vi c1.Params, .sl false 1 (List.map vi c1.Locals), .sl false 7 (List.map (GIns.enc false) c1.Words)])]⟩) (fun _ => True) (fun _ _ => ?_) fun K46 hK46 => ?_
          rotate_left
          · refine SWp.block ?_
            refine SWp.seqR rfl (hPB _ rfl) fun K hK => ?_
            refine wps_cons rfl fun K hK => ?_; simp [hN']; refine hK _ ?_; clear hK
            obtain ⟨e48, he48, hj45⟩ := bind_some hj45
            obtain ⟨he48a, he48b, he48c, he48d⟩ := getI_some he48
            iterate 5 (refine wps_cons rfl fun K hK => ?_; simp [hN', he48a, he48b, he48c, he48d]; refine hK _ ?_; clear hK)
            refine wps_nil (hK _ ?_); clear hK
            refine SWp.seq ?_
            refine SWp.seqR rfl (hPB _ rfl) fun K hK => ?_
            iterate 2 (refine wps_cons rfl fun K hK => ?_; simp [hN']; refine hK _ ?_; clear hK)
            obtain ⟨e49, he49, hj45⟩ := bind_some hj45
            obtain ⟨he49a, he49b, he49c, he49d⟩ := getI_some he49
            iterate 3 (refine wps_cons rfl fun K hK => ?_; simp [hN', he49a, he49b, he49c, he49d]; refine hK _ ?_; clear hK)
            refine wps_nil (hK _ ?_); clear hK
            rcases ite_or hj45 with ⟨hb50, hj45⟩ | ⟨hb51, hj45⟩
            · refine SWp.condT' (b := !e49) (by simp) hb50 ?_
              refine SWp.exit ?_
              cases hj45
              exact hK46 _ () [] trivial (by simp [hN'])
            · refine SWp.condF' (b := !e49) (by simp) hb51 ?_
              refine SWp.skip ?_
              show SWp E C _ _ _
              refine SWp.seq ?_
              obtain ⟨e53, he53, hj45⟩ := bind_some hj45
              obtain ⟨he53a, he53b, he53c, he53d⟩ := getI_some he53
              refine SWp.drawT rfl (hPB _ rfl) [(56, .t (GIns.enc false e48)), (57, .al (.slot 3) 0 [] none), (58, .t (vi v39)), (59, .ref (.slot 3) 0 [(v39.toNat, 0)]), (60, .al (.slot 3) 0 [(v39.toNat, 0)] none)] [[], [], [], [1, 2], [1, 2, 3], [0, 1, 2, 3, 4], [0, 1, 2, 3, 4, 5]] (by simp) (by simp) (by simp [look]) rfl rfl rfl ?_ fun K hK => ?_
              · refine ⟨?_, ?_, ?_, ?_, ?_, trivial⟩
                all_goals (intro τ hbx hb hd hf K hK; try simp [vsAt] at hd; simp [vsAt] at hf; first | (refine wps_cons rfl fun K' hK' => ?_; simp [hN', hbx, hb, hd, hf, he53a, he53b, he53c, he53d]; exact hK' _ (wps_nil (hK _ (by simp [vsAt, hbx, he53a, he53b, he53c, he53d])))))
              obtain ⟨r54, hc55, hj45⟩ := bind_some hj45
              refine wps_call [(.take, .tmp 56), (.bor, .tmp 60)] rfl rfl ent77 (impl_behind_ok _ _ hc55) fun K hK => ?_; simp [hN', he53a, he53b, he53c, he53d]; refine hK _ ?_; clear hK
              refine wps_cons rfl fun K hK => ?_; simp [hN', he53a, he53b, he53c, he53d]; refine hK _ ?_; clear hK
              refine wps_nil (hK _ ?_); clear hK
              show SWp E C _ _ _
              refine SWp.seqR rfl (hPB _ rfl) fun K hK => ?_
              iterate 2 (refine wps_cons rfl fun K hK => ?_; simp [hN']; refine hK _ ?_; clear hK)
              obtain ⟨r56, hc57, hj45⟩ := bind_some hj45
              refine wps_call [(.take, .tmp 62), (.take, .tmp 63)] rfl rfl ent51 (impl_Next_ok _ _ hc57) fun K hK => ?_; simp [hN']; refine hK _ ?_; clear hK
              iterate 2 (refine wps_cons rfl fun K hK => ?_; simp [hN']; refine hK _ ?_; clear hK)
              refine wps_nil (hK _ ?_); clear hK
              refine SWp.block ?_
              refine SWp.loopO [] [1, 3, 5, 6, 9, 44, 45, 46, 64, 65, 66] [1] (fun v : (List (List Bool)) × Bool × Int => ⟨[(1, .ref (.box 1) 0 []), (3, .t (.sl true 1 (List.map (eSl true 1 vb) v.1))), (5, .t (.sl true 1 (List.map vb r25))), (6, .t (vb v.2.1)), (9, .t (.sl true 1 (List.map vb r54))), (44, .t (.sl false 7 (List.map (GIns.enc false) c1.Words))), (45, .t (vi (c1.Words.length : Int))), (46, .t (vi v39)), (64, .t (.sl true 1 (List.map vi r56))), (65, .t (vi (r56.length : Int))), (66, .t (vi v.2.2))], [(1, [vs c1.Name, vi c1.Params, .sl false 1 (List.map vi c1.Locals), .sl false 7 (List.map (GIns.enc false) c1.Words)])]⟩) (impl_HasAt_l4 r54 r56) _ (out37, more38, 0) hj45 (by simp [hN']) ?_
              intro g s63 h61 ho62
              obtain ⟨out58, more59, v60⟩ := g
              simp only [impl_HasAt_l4] at h61
              try dsimp only
              refine SWp.seqR rfl (hPB _ rfl) fun K hK => ?_
              refine wps_cons rfl fun K hK => ?_; simp [hN']; refine hK _ ?_; clear hK
              refine wps_nil (hK _ ?_); clear hK
              refine SWp.seq ?_
              rcases ite_or h61 with ⟨hb64, h61⟩ | ⟨hb65, h61⟩
              · refine SWp.condT' (b := decide (v60 < (r56.length : Int))) (by simp) hb64 ?_
                refine SWp.skip ?_
                show SWp E C _ _ _
                obtain ⟨⟨out93, more94⟩, hj66, h61⟩ := bind_some h61
                try dsimp only at h61
                refine SWp.seqC [1, 3, 5, 6, 9, 44, 45, 46, 64, 65, 66] [1] (fun _ : Unit => ⟨[(1, .ref (.box 1) 0 []), (3, .t (.sl true 1 (List.map (eSl true 1 vb) out93))), (5, .t (.sl true 1 (List.map vb r25))), (6, .t (vb more94)), (9, .t (.sl true 1 (List.map vb r54))), (44, .t (.sl false 7 (List.map (GIns.enc false) c1.Words))), (45, .t (vi (c1.Words.length : Int))), (46, .t (vi v39)), (64, .t (.sl true 1 (List.map vi r56))), (65, .t (vi (r56.length : Int))), (66, .t (vi v60))], [(1, [vs c1.Name, vi c1.Params, .sl false 1 (List.map vi c1.Locals), .sl false 7 (List.map (GIns.enc false) c1.Words)])]⟩) (fun _ => True) (fun _ _ => ?_) fun K67 hK67 => ?_
                rotate_left
                · refine SWp.block ?_
                  refine SWp.seqR rfl (hPB _ rfl) fun K hK => ?_
                  obtain ⟨e69, he69, hj66⟩ := bind_some hj66
                  obtain ⟨he69a, he69b, he69c, he69d⟩ := getI_some he69
                  iterate 3 (refine wps_cons rfl fun K hK => ?_; simp [hN', he69a, he69b, he69c, he69d]; refine hK _ ?_; clear hK)
                  refine wps_nil (hK _ ?_); clear hK
                  refine SWp.seqR rfl (hPB _ rfl) fun K hK => ?_
                  iterate 3 (refine wps_cons rfl fun K hK => ?_; simp [hN']; refine hK _ ?_; clear hK)
                  refine wps_nil (hK _ ?_); clear hK
                  refine SWp.block ?_
                  refine SWp.loopO [] [1, 3, 5, 6, 9, 11, 44, 45, 46, 64, 65, 66, 70, 71, 72] [1] (fun v : (List (List Bool)) × Bool × Int => ⟨[(1, .ref (.box 1) 0 []), (3, .t (.sl true 1 (List.map (eSl true 1 vb) v.1))), (5, .t (.sl true 1 (List.map vb r25))), (6, .t (vb v.2.1)), (9, .t (.sl true 1 (List.map vb r54))), (11, .t (vi e69)), (44, .t (.sl false 7 (List.map (GIns.enc false) c1.Words))), (45, .t (vi (c1.Words.length : Int))), (46, .t (vi v39)), (64, .t (.sl true 1 (List.map vi r56))), (65, .t (vi (r56.length : Int))), (66, .t (vi v60)), (70, .al (.slot 9) 0 [] none), (71, .t (vi (r54.length : Int))), (72, .t (vi v.2.2))], [(1, [vs c1.Name, vi c1.Params, .sl false 1 (List.map vi c1.Locals), .sl false 7 (List.map (GIns.enc false) c1.Words)])]⟩) (impl_HasAt_l5 r54 e69) _ (out58, more59, 0) hj66 (by simp [hN']) ?_
                  intro g s75 h73 ho74
                  obtain ⟨out70, more71, v72⟩ := g
                  simp only [impl_HasAt_l5] at h73
                  try dsimp only
                  refine SWp.seqR rfl (hPB _ rfl) fun K hK => ?_
                  refine wps_cons rfl fun K hK => ?_; simp [hN']; refine hK _ ?_; clear hK
                  refine wps_nil (hK _ ?_); clear hK
                  refine SWp.seq ?_
                  rcases ite_or h73 with ⟨hb76, h73⟩ | ⟨hb77, h73⟩
                  · refine SWp.condT' (b := decide (v72 < (r54.length : Int))) (by simp) hb76 ?_
                    refine SWp.skip ?_
                    show SWp E C _ _ _
                    refine SWp.seq ?_
                    refine SWp.block ?_
                    refine SWp.seqR rfl (hPB _ rfl) fun K hK => ?_
                    refine wps_cons rfl fun K hK => ?_; simp [hN']; refine hK _ ?_; clear hK
                    obtain ⟨e78, he78, h73⟩ := bind_some h73
                    obtain ⟨he78a, he78b, he78c, he78d⟩ := getI_some he78
                    iterate 4 (refine wps_cons rfl fun K hK => ?_; simp [hN', he78a, he78b, he78c, he78d]; refine hK _ ?_; clear hK)
                    refine wps_nil (hK _ ?_); clear hK
                    obtain ⟨v85, hj79, h73⟩ := bind_some h73
                    refine SWp.seqRC rfl (hPB _ rfl) [1, 3, 5, 6, 9, 11, 12, 44, 45, 46, 64, 65, 66, 70, 71, 72, 87] [1] (fun _ : Unit => ⟨[(1, .ref (.box 1) 0 []), (3, .t (.sl true 1 (List.map (eSl true 1 vb) out70))), (5, .t (.sl true 1 (List.map vb r25))), (6, .t (vb more71)), (9, .t (.sl true 1 (List.map vb r54))), (11, .t (vi e69)), (12, .t (vi v72)), (44, .t (.sl false 7 (List.map (GIns.enc false) c1.Words))), (45, .t (vi (c1.Words.length : Int))), (46, .t (vi v39)), (64, .t (.sl true 1 (List.map vi r56))), (65, .t (vi (r56.length : Int))), (66, .t (vi v60)), (70, .al (.slot 9) 0 [] none), (71, .t (vi (r54.length : Int))), (72, .t (vi v72)), (87, .t (vb v85))], [(1, [vs c1.Name, vi c1.Params, .sl false 1 (List.map vi c1.Locals), .sl false 7 (List.map (GIns.enc false) c1.Words)])]⟩) (fun _ => True) (fun _ _ => ?_) fun K80 hK80 => ?_
                    rotate_left
                    · refine wps_cons rfl fun K hK => ?_; simp [hN']; refine hK _ ?_; clear hK
                      iterate 2 (refine wps_cons rfl fun K hK => ?_; simp [hN']; refine hK _ ?_; clear hK)
                      rcases ite_or hj79 with ⟨hb81, hj79⟩ | ⟨hb82, hj79⟩
                      · have hb81s := hb81
                        try simp at hb81s
                        iterate 2 (refine wps_cons rfl fun K hK => ?_; simp [hN', hb81, hb81s]; refine hK _ ?_; clear hK)
                        obtain ⟨e83, he83, hj79⟩ := bind_some hj79
                        obtain ⟨he83a, he83b, he83c, he83d⟩ := getI_some he83
                        iterate 3 (refine wps_cons rfl fun K hK => ?_; simp [hN', hb81, hb81s, he83a, he83b, he83c, he83d]; refine hK _ ?_; clear hK)
                        obtain ⟨e84, he84, hj79⟩ := bind_some hj79
                        obtain ⟨he84a, he84b, he84c, he84d⟩ := getI_some he84
                        iterate 3 (refine wps_cons rfl fun K hK => ?_; simp [hN', hb81, hb81s, he83a, he83b, he83c, he83d, he84a, he84b, he84c, he84d]; refine hK _ ?_; clear hK)
                        refine wps_nil ?_
                        cases hj79
                        exact hK80 _ () [] trivial (by simp [hN', hb81, hb81s, he83a, he83b, he83c, he83d, he84a, he84b, he84c, he84d])
                      · have hb82s := hb82
                        try simp at hb82s
                        iterate 7 (refine wps_off fun K hK => ?_; simp [hN', hb82, hb82s]; refine hK _ ?_; clear hK)
                        refine wps_cons rfl fun K hK => ?_; simp [hN', hb82, hb82s]; refine hK _ ?_; clear hK
                        refine wps_nil ?_
                        cases hj79
                        exact hK80 _ () [] trivial (by simp [hN', hb82, hb82s])
                    rcases ite_or h73 with ⟨hb86, h73⟩ | ⟨hb87, h73⟩
                    · refine SWp.condT' (b := v85) (by simp) hb86 ?_
                      refine SWp.seqR rfl (hPB _ rfl) fun K hK => ?_
                      iterate 2 (refine wps_cons rfl fun K hK => ?_; simp [hN']; refine hK _ ?_; clear hK)
                      obtain ⟨e88, he88, h73⟩ := bind_some h73
                      obtain ⟨he88a, he88b, he88c, he88d⟩ := getI_some he88
                      iterate 3 (refine wps_cons rfl fun K hK => ?_; simp [hN', he88a, he88b, he88c, he88d]; refine hK _ ?_; clear hK)
                      obtain ⟨e89, he89, h73⟩ := bind_some h73
                      obtain ⟨he89a, he89b, he89c, he89d⟩ := getI_some he89
                      refine wps_cons rfl fun K hK => ?_; simp [hN', he88a, he88b, he88c, he88d, he89a, he89b, he89c, he89d]; refine hK _ ?_; clear hK
                      obtain ⟨l90, hl90, h73⟩ := bindS_some h73
                      have hl90f : (List.map vb e88).set v72.toNat (vb false) = List.map vb l90 := set_map (f := vb) hl90
                      try simp only [Int.toNat_natCast] at hl90f
                      obtain ⟨l91, hl91, h73⟩ := bindS_some h73
                      have hl91f : (List.map (eSl true 1 vb) out70).set e69.toNat (.sl true 1 (List.map vb l90)) = List.map (eSl true 1 vb) l91 := set_map (f := (eSl true 1 vb)) hl91
                      try simp only [Int.toNat_natCast] at hl91f
                      refine wps_cons rfl fun K hK => ?_; simp [hN', he88a, he88b, he88c, he88d, he89a, he89b, he89c, he89d, hl90f, hl91f]; refine hK _ ?_; clear hK
                      refine wps_nil (hK _ ?_); clear hK
                      refine SWp.reg rfl (hPB _ rfl) fun K hK => ?_
                      refine wps_cons rfl fun K hK => ?_; simp [hN']; refine hK _ ?_; clear hK
                      refine wps_nil (hK _ ?_); clear hK
                      show SWp E C _ _ _
                      refine SWp.reg rfl (hPB _ rfl) fun K hK => ?_
                      iterate 2 (refine wps_cons rfl fun K hK => ?_; simp [hN']; refine hK _ ?_; clear hK)
                      refine wps_nil (hK _ ?_); clear hK
                      cases h73
                      exact ⟨_, [], rfl, by simp [hN']⟩
                    · refine SWp.condF' (b := v85) (by simp) hb87 ?_
                      refine SWp.skip ?_
                      show SWp E C _ _ _
                      refine SWp.reg rfl (hPB _ rfl) fun K hK => ?_
                      iterate 2 (refine wps_cons rfl fun K hK => ?_; simp [hN']; refine hK _ ?_; clear hK)
                      refine wps_nil (hK _ ?_); clear hK
                      cases h73
                      exact ⟨_, [], rfl, by simp [hN']⟩
                  · refine SWp.condF' (b := decide (v72 < (r54.length : Int))) (by simp) hb77 ?_
                    refine SWp.exit ?_
                    have h92 := congrArg some (ho74 _ (Option.some.inj h73).symm)
                    cases h92
                    exact hK67 _ () [] trivial (by simp [hN'])
                refine SWp.reg rfl (hPB _ rfl) fun K hK => ?_
                iterate 2 (refine wps_cons rfl fun K hK => ?_; simp [hN']; refine hK _ ?_; clear hK)
                refine wps_nil (hK _ ?_); clear hK
                cases h61
                exact ⟨_, [], rfl, by simp [hN']⟩
              · refine SWp.condF' (b := decide (v60 < (r56.length : Int))) (by simp) hb65 ?_
                refine SWp.exit ?_
                have h95 := congrArg some (ho62 _ (Option.some.inj h61).symm)
                cases h95
                exact hK46 _ () [] trivial (by simp [hN'])
          refine SWp.reg rfl (hPB _ rfl) fun K hK => ?_
          iterate 2 (refine wps_cons rfl fun K hK => ?_; simp [hN']; refine hK _ ?_; clear hK)
          refine wps_nil (hK _ ?_); clear hK
          cases h40
          exact ⟨_, [], rfl, by simp [hN']⟩
        · refine SWp.condF' (b := decide (v39 < (c1.Words.length : Int))) (by simp) hb44 ?_
          refine SWp.exit ?_
          have h98 := congrArg some (ho41 _ (Option.some.inj h40).symm)
          cases h98
          exact ⟨_, [], rfl, by simp [hN']⟩
      · refine SWp.condF' (b := more31) (by simp) hb36 ?_
        refine SWp.exit ?_
        have h99 := congrArg some (ho33 _ (Option.some.inj h32).symm)
        cases h99
        exact hK28 _ () [] trivial (by simp [hN'])
    refine SWp.seqR rfl (hPB _ rfl) fun K hK => ?_
    iterate 2 (refine wps_cons rfl fun K hK => ?_; simp [hN']; refine hK _ ?_; clear hK)
    refine wps_nil (hK _ ?_); clear hK
    cases h
    refine SWp.ret ?_
    simp [thenS, inBlockS, res37]
end Go.Proofs.T
set_option linter.unusedVariables false
set_option linter.unusedSimpArgs false
set_option maxHeartbeats 1000000
namespace Go.Proofs.T
open Go.OM
theorem res69 : Tryd.f69.results.toList = [.tmp 4] := rfl
theorem ent69 : Enters E.P 69 := enters_of Tryd.func69 (by simp [Tryd.f69]) rfl
theorem impl_hasInt_ok (l1 : List Int) (n2 : Int) {r0 : Bool} (h : impl_hasInt l1 n2 = some r0) : Ok E 69 [.val (.sl false 1 (List.map vi l1)), .val (vi n2)] [vb r0] [] := by
  refine ok_of_body (fn := Tryd.f69) Tryd.func69 rfl (by simp [Tryd.f69]) fun C hN hP => ?_
  have hPB : ∀ l, pinK [] l = true → pinB C.pin l = true := pinB_of (by rw [hP]; rfl)
  have hN' : C.N = 17 := hN
  clear hN
  unfold impl_hasInt at h
  refine SWp.seqR rfl (hPB _ rfl) fun K hK => ?_
  refine wps_cons rfl fun K hK => ?_; simp [hN']; refine hK _ ?_; clear hK
  refine wps_nil (hK _ ?_); clear hK
  obtain ⟨j5, hj3, h⟩ := bind_some h
  refine SWp.seqC [] [] (fun v : Unit => ⟨[], []⟩) (fun v => j5 = Sum.inl v) (fun v hv => ?_) fun K4 hK4 => ?_
  rotate_left
  · refine SWp.seqR rfl (hPB _ rfl) fun K hK => ?_
    iterate 3 (refine wps_cons rfl fun K hK => ?_; simp [hN']; refine hK _ ?_; clear hK)
    refine wps_nil (hK _ ?_); clear hK
    refine SWp.block ?_
    refine SWp.loopO [] [1, 7, 8, 9] [] (fun v : Int => ⟨[(1, .t (vi n2)), (7, .t (.sl false 1 (List.map vi l1))), (8, .t (vi (l1.length : Int))), (9, .t (vi v))], []⟩) (impl_hasInt_l1 l1 n2) _ 0 hj3 (by simp [hN']) ?_
    intro g s9 h7 ho8
    obtain ⟨v6, hg⟩ : ∃ y, y = g := ⟨_, rfl⟩
    subst hg
    simp only [impl_hasInt_l1] at h7
    try dsimp only
    refine SWp.seqR rfl (hPB _ rfl) fun K hK => ?_
    refine wps_cons rfl fun K hK => ?_; simp [hN']; refine hK _ ?_; clear hK
    refine wps_nil (hK _ ?_); clear hK
    refine SWp.seq ?_
    rcases ite_or h7 with ⟨hb10, h7⟩ | ⟨hb11, h7⟩
    · refine SWp.condT' (b := decide (v6 < (l1.length : Int))) (by simp) hb10 ?_
      refine SWp.skip ?_
      show SWp E C _ _ _
      refine SWp.seq ?_
      refine SWp.block ?_
      refine SWp.seqR rfl (hPB _ rfl) fun K hK => ?_
      obtain ⟨e12, he12, h7⟩ := bind_some h7
      obtain ⟨he12a, he12b, he12c, he12d⟩ := getI_some he12
      iterate 3 (refine wps_cons rfl fun K hK => ?_; simp [hN', he12a, he12b, he12c, he12d]; refine hK _ ?_; clear hK)
      refine wps_nil (hK _ ?_); clear hK
      refine SWp.seqR rfl (hPB _ rfl) fun K hK => ?_
      iterate 3 (refine wps_cons rfl fun K hK => ?_; simp [hN']; refine hK _ ?_; clear hK)
      refine wps_nil (hK _ ?_); clear hK
      rcases ite_or h7 with ⟨hb13, h7⟩ | ⟨hb14, h7⟩
      · refine SWp.condT' (b := e12 == n2) (by simp) hb13 ?_
        refine SWp.seqR rfl (hPB _ rfl) fun K hK => ?_
        refine wps_cons rfl fun K hK => ?_; simp [hN']; refine hK _ ?_; clear hK
        refine wps_nil (hK _ ?_); clear hK
        have h15 := congrArg some (ho8 _ (Option.some.inj h7).symm)
        cases h15
        try dsimp only at h
        cases h
        refine SWp.ret ?_
        simp [thenS, inBlockS, res69]
      · refine SWp.condF' (b := e12 == n2) (by simp) hb14 ?_
        refine SWp.skip ?_
        show SWp E C _ _ _
        refine SWp.reg rfl (hPB _ rfl) fun K hK => ?_
        iterate 2 (refine wps_cons rfl fun K hK => ?_; simp [hN']; refine hK _ ?_; clear hK)
        refine wps_nil (hK _ ?_); clear hK
        cases h7
        exact ⟨_, [], rfl, by simp [hN']⟩
    · refine SWp.condF' (b := decide (v6 < (l1.length : Int))) (by simp) hb11 ?_
      refine SWp.exit ?_
      have h16 := congrArg some (ho8 _ (Option.some.inj h7).symm)
      cases h16
      exact hK4 _ _ [] rfl (by simp [hN'])
  subst hv
  obtain ⟨⟩ := v
  try dsimp only at h ⊢
  refine SWp.seqR rfl (hPB _ rfl) fun K hK => ?_
  refine wps_cons rfl fun K hK => ?_; simp [hN']; refine hK _ ?_; clear hK
  refine wps_nil (hK _ ?_); clear hK
  cases h
  refine SWp.ret ?_
  simp [thenS, inBlockS, res69]
end Go.Proofs.T
set_option linter.unusedVariables false
set_option linter.unusedSimpArgs false
set_option maxHeartbeats 1000000
namespace Go.Proofs.T
open Go.OM
theorem res75 : Tryd.f75.results.toList = [.tmp 2] := rfl
theorem ent75 : Enters E.P 75 := enters_of Tryd.func75 (by simp [Tryd.f75]) rfl
theorem impl_Reads_ok (x1 : GIns) {r0 : List Int} (h : impl_Reads x1 = some r0) : Ok E 75 [.val (GIns.enc false x1)] [.sl true 1 (List.map vi r0)] [] := by
  refine ok_of_body (fn := Tryd.f75) Tryd.func75 rfl (by simp [Tryd.f75]) fun C hN hP => ?_
  have hPB : ∀ l, pinK [] l = true → pinB C.pin l = true := pinB_of (by rw [hP]; rfl)
  have hN' : C.N = 86 := hN
  clear hN
  unfold impl_Reads at h
  refine SWp.seqR rfl (hPB _ rfl) fun K hK => ?_
  iterate 2 (refine wps_cons rfl fun K hK => ?_; simp [hN']; refine hK _ ?_; clear hK)
  refine wps_nil (hK _ ?_); clear hK
  refine SWp.seqR rfl (hPB _ rfl) fun K hK => ?_
  refine wps_cons rfl fun K hK => ?_; simp [hN']; refine hK _ ?_; clear hK
  refine wps_nil (hK _ ?_); clear hK
  obtain ⟨l35, hj2, h⟩ := bind_some h
  refine SWp.seqC [3] [] (fun _ : Unit => ⟨[(3, .t (.sl false 1 (List.map vi l35)))], []⟩) (fun _ => True) (fun _ _ => ?_) fun K3 hK3 => ?_
  rotate_left
  · refine SWp.block ?_
    obtain ⟨v13, hj5, hj2⟩ := bind_some hj2
    refine SWp.seqRC rfl (hPB _ rfl) [1, 3, 7] [1] (fun _ : Unit => ⟨[(1, .ref (.box 1) 0 []), (3, .t (.sl true 1 [])), (7, .t (vb v13))], [(1, [vi x1.Op, vi x1.A, vi x1.B, vi x1.C, vi x1.Num, vs x1.Name, .sl false 1 (List.map vi x1.Args)])]⟩) (fun _ => True) (fun _ _ => ?_) fun K6 hK6 => ?_
    rotate_left
    · refine wps_cons rfl fun K hK => ?_; simp [hN']; refine hK _ ?_; clear hK
      refine wps_cons rfl fun K hK => ?_; simp [hN']; refine hK _ ?_; clear hK
      obtain ⟨r7, hc8, hj5⟩ := bind_some hj5
      refine wps_call [(.take, .tmp 9), (.take, .const (.int .i64 2)), (.take, .const (.int .i64 7))] rfl rfl ent66 (impl_in_ok _ _ _ hc8) fun K hK => ?_; simp [hN']; refine hK _ ?_; clear hK
      refine wps_cons rfl fun K hK => ?_; simp [hN']; refine hK _ ?_; clear hK
      rcases ite_or hj5 with ⟨hb9, hj5⟩ | ⟨hb10, hj5⟩
      · have hb9s := hb9
        try simp at hb9s
        iterate 3 (refine wps_off fun K hK => ?_; simp [hN', hb9, hb9s]; refine hK _ ?_; clear hK)
        iterate 2 (refine wps_cons rfl fun K hK => ?_; simp [hN', hb9, hb9s]; refine hK _ ?_; clear hK)
        iterate 3 (refine wps_off fun K hK => ?_; simp [hN', hb9, hb9s]; refine hK _ ?_; clear hK)
        iterate 2 (refine wps_cons rfl fun K hK => ?_; simp [hN', hb9, hb9s]; refine hK _ ?_; clear hK)
        refine wps_nil ?_
        cases hj5
        exact hK6 _ () [] trivial (by simp [hN', hb9, hb9s])
      · have hb10s := hb10
        try simp at hb10s
        iterate 5 (refine wps_cons rfl fun K hK => ?_; simp [hN', hb10, hb10s]; refine hK _ ?_; clear hK)
        rcases ite_or hj5 with ⟨hb11, hj5⟩ | ⟨hb12, hj5⟩
        · have hb11s := hb11
          try simp at hb11s
          iterate 3 (refine wps_off fun K hK => ?_; simp [hN', hb10, hb10s, hb11, hb11s]; refine hK _ ?_; clear hK)
          iterate 2 (refine wps_cons rfl fun K hK => ?_; simp [hN', hb10, hb10s, hb11, hb11s]; refine hK _ ?_; clear hK)
          refine wps_nil ?_
          cases hj5
          exact hK6 _ () [] trivial (by simp [hN', hb10, hb10s, hb11, hb11s])
        · have hb12s := hb12
          try simp at hb12s
          iterate 5 (refine wps_cons rfl fun K hK => ?_; simp [hN', hb10, hb10s, hb12, hb12s]; refine hK _ ?_; clear hK)
          refine wps_nil ?_
          cases hj5
          exact hK6 _ () [] trivial (by simp [hN', hb10, hb10s, hb12, hb12s])
    rcases ite_or hj2 with ⟨hb14, hj2⟩ | ⟨hb15, hj2⟩
    · refine SWp.condT' (b := v13) (by simp) hb14 ?_
      refine SWp.reg rfl (hPB _ rfl) fun K hK => ?_
      iterate 4 (refine wps_cons rfl fun K hK => ?_; simp [hN']; refine hK _ ?_; clear hK)
      refine wps_nil (hK _ ?_); clear hK
      cases hj2
      exact hK3 _ () [3] trivial (by simp [hN'])
    · refine SWp.condF' (b := v13) (by simp) hb15 ?_
      refine SWp.seqR rfl (hPB _ rfl) fun K hK => ?_
      iterate 2 (refine wps_cons rfl fun K hK => ?_; simp [hN']; refine hK _ ?_; clear hK)
      obtain ⟨r16, hc17, hj2⟩ := bind_some hj2
      refine wps_call [(.take, .tmp 26), (.take, .const (.int .i64 10)), (.take, .const (.int .i64 12))] rfl rfl ent66 (impl_in_ok _ _ _ hc17) fun K hK => ?_; simp [hN']; refine hK _ ?_; clear hK
      refine wps_cons rfl fun K hK => ?_; simp [hN']; refine hK _ ?_; clear hK
      refine wps_nil (hK _ ?_); clear hK
      rcases ite_or hj2 with ⟨hb18, hj2⟩ | ⟨hb19, hj2⟩
      · refine SWp.condT' (b := r16) (by simp) hb18 ?_
        refine SWp.reg rfl (hPB _ rfl) fun K hK => ?_
        iterate 6 (refine wps_cons rfl fun K hK => ?_; simp [hN']; refine hK _ ?_; clear hK)
        refine wps_nil (hK _ ?_); clear hK
        cases hj2
        exact hK3 _ () [3] trivial (by simp [hN'])
      · refine SWp.condF' (b := r16) (by simp) hb19 ?_
        refine SWp.seqR rfl (hPB _ rfl) fun K hK => ?_
        iterate 4 (refine wps_cons rfl fun K hK => ?_; simp [hN']; refine hK _ ?_; clear hK)
        refine wps_nil (hK _ ?_); clear hK
        rcases ite_or hj2 with ⟨hb20, hj2⟩ | ⟨hb21, hj2⟩
        · refine SWp.condT' (b := x1.Op == 13) (by simp) hb20 ?_
          refine SWp.reg rfl (hPB _ rfl) fun K hK => ?_
          iterate 3 (refine wps_cons rfl fun K hK => ?_; simp [hN']; refine hK _ ?_; clear hK)
          refine wps_nil (hK _ ?_); clear hK
          cases hj2
          exact hK3 _ () [] trivial (by simp [hN'])
        · refine SWp.condF' (b := x1.Op == 13) (by simp) hb21 ?_
          refine SWp.seqR rfl (hPB _ rfl) fun K hK => ?_
          iterate 4 (refine wps_cons rfl fun K hK => ?_; simp [hN']; refine hK _ ?_; clear hK)
          refine wps_nil (hK _ ?_); clear hK
          rcases ite_or hj2 with ⟨hb22, hj2⟩ | ⟨hb23, hj2⟩
          · refine SWp.condT' (b := x1.Op == 15) (by simp) hb22 ?_
            refine SWp.reg rfl (hPB _ rfl) fun K hK => ?_
            iterate 6 (refine wps_cons rfl fun K hK => ?_; simp [hN']; refine hK _ ?_; clear hK)
            refine wps_nil (hK _ ?_); clear hK
            cases hj2
            exact hK3 _ () [3] trivial (by simp [hN'])
          · refine SWp.condF' (b := x1.Op == 15) (by simp) hb23 ?_
            obtain ⟨v32, hj24, hj2⟩ := bind_some hj2
            refine SWp.seqRC rfl (hPB _ rfl) [1, 3, 48] [1] (fun _ : Unit => ⟨[(1, .ref (.box 1) 0 []), (3, .t (.sl true 1 [])), (48, .t (vb v32))], [(1, [vi x1.Op, vi x1.A, vi x1.B, vi x1.C, vi x1.Num, vs x1.Name, .sl false 1 (List.map vi x1.Args)])]⟩) (fun _ => True) (fun _ _ => ?_) fun K25 hK25 => ?_
            rotate_left
            · refine wps_cons rfl fun K hK => ?_; simp [hN']; refine hK _ ?_; clear hK
              iterate 3 (refine wps_cons rfl fun K hK => ?_; simp [hN']; refine hK _ ?_; clear hK)
              rcases ite_or hj24 with ⟨hb26, hj24⟩ | ⟨hb27, hj24⟩
              · have hb26s := hb26
                try simp at hb26s
                iterate 3 (refine wps_off fun K hK => ?_; simp [hN', hb26, hb26s]; refine hK _ ?_; clear hK)
                iterate 2 (refine wps_cons rfl fun K hK => ?_; simp [hN', hb26, hb26s]; refine hK _ ?_; clear hK)
                iterate 8 (refine wps_off fun K hK => ?_; simp [hN', hb26, hb26s]; refine hK _ ?_; clear hK)
                iterate 2 (refine wps_cons rfl fun K hK => ?_; simp [hN', hb26, hb26s]; refine hK _ ?_; clear hK)
                refine wps_nil ?_
                cases hj24
                exact hK25 _ () [] trivial (by simp [hN', hb26, hb26s])
              · have hb27s := hb27
                try simp at hb27s
                iterate 5 (refine wps_cons rfl fun K hK => ?_; simp [hN', hb27, hb27s]; refine hK _ ?_; clear hK)
                rcases ite_or hj24 with ⟨hb28, hj24⟩ | ⟨hb29, hj24⟩
                · have hb28s := hb28
                  try simp at hb28s
                  iterate 8 (refine wps_off fun K hK => ?_; simp [hN', hb27, hb27s, hb28, hb28s]; refine hK _ ?_; clear hK)
                  iterate 2 (refine wps_cons rfl fun K hK => ?_; simp [hN', hb27, hb27s, hb28, hb28s]; refine hK _ ?_; clear hK)
                  refine wps_nil ?_
                  cases hj24
                  exact hK25 _ () [] trivial (by simp [hN', hb27, hb27s, hb28, hb28s])
                · have hb29s := hb29
                  try simp at hb29s
                  iterate 4 (refine wps_cons rfl fun K hK => ?_; simp [hN', hb27, hb27s, hb29, hb29s]; refine hK _ ?_; clear hK)
                  rcases ite_or hj24 with ⟨hb30, hj24⟩ | ⟨hb31, hj24⟩
                  · have hb30s := hb30
                    try simp at hb30s
                    iterate 6 (refine wps_cons rfl fun K hK => ?_; simp [hN', hb27, hb27s, hb29, hb29s, hb30, hb30s]; refine hK _ ?_; clear hK)
                    refine wps_nil ?_
                    cases hj24
                    exact hK25 _ () [] trivial (by simp [hN', hb27, hb27s, hb29, hb29s, hb30, hb30s])
                  · have hb31s := hb31
                    try simp at hb31s
                    iterate 3 (refine wps_off fun K hK => ?_; simp [hN', hb27, hb27s, hb29, hb29s, hb31, hb31s]; refine hK _ ?_; clear hK)
                    iterate 3 (refine wps_cons rfl fun K hK => ?_; simp [hN', hb27, hb27s, hb29, hb29s, hb31, hb31s]; refine hK _ ?_; clear hK)
                    refine wps_nil ?_
                    cases hj24
                    exact hK25 _ () [] trivial (by simp [hN', hb27, hb27s, hb29, hb29s, hb31, hb31s])
            rcases ite_or hj2 with ⟨hb33, hj2⟩ | ⟨hb34, hj2⟩
            · refine SWp.condT' (b := v32) (by simp) hb33 ?_
              refine SWp.reg rfl (hPB _ rfl) fun K hK => ?_
              iterate 4 (refine wps_cons rfl fun K hK => ?_; simp [hN']; refine hK _ ?_; clear hK)
              refine wps_nil (hK _ ?_); clear hK
              cases hj2
              exact hK3 _ () [3] trivial (by simp [hN'])
            · refine SWp.condF' (b := v32) (by simp) hb34 ?_
              refine SWp.skip ?_
              cases hj2
              exact hK3 _ () [3] trivial (by simp [hN'])
  refine SWp.seqR rfl (hPB _ rfl) fun K hK => ?_
  refine wps_cons rfl fun K hK => ?_; simp [hN']; refine hK _ ?_; clear hK
  refine wps_nil (hK _ ?_); clear hK
  obtain ⟨out53, hj36, h⟩ := bind_some h
  refine SWp.seqC [4] [] (fun _ : Unit => ⟨[(4, .t (.sl true 1 (List.map vi out53)))], []⟩) (fun _ => True) (fun _ _ => ?_) fun K37 hK37 => ?_
  rotate_left
  · refine SWp.seqR rfl (hPB _ rfl) fun K hK => ?_
    iterate 3 (refine wps_cons rfl fun K hK => ?_; simp [hN']; refine hK _ ?_; clear hK)
    refine wps_nil (hK _ ?_); clear hK
    refine SWp.block ?_
    refine SWp.loopO [] [4, 70, 71, 72] [] (fun v : (List Int) × Int => ⟨[(4, .t (.sl true 1 (List.map vi v.1))), (70, .t (.sl false 1 (List.map vi l35))), (71, .t (vi (l35.length : Int))), (72, .t (vi v.2))], []⟩) (impl_Reads_l1 l35) _ ([], 0) hj36 (by simp [hN']) ?_
    intro g s43 h41 ho42
    obtain ⟨out39, v40⟩ := g
    simp only [impl_Reads_l1] at h41
    try dsimp only
    refine SWp.seqR rfl (hPB _ rfl) fun K hK => ?_
    refine wps_cons rfl fun K hK => ?_; simp [hN']; refine hK _ ?_; clear hK
    refine wps_nil (hK _ ?_); clear hK
    refine SWp.seq ?_
    rcases ite_or h41 with ⟨hb44, h41⟩ | ⟨hb45, h41⟩
    · refine SWp.condT' (b := decide (v40 < (l35.length : Int))) (by simp) hb44 ?_
      refine SWp.skip ?_
      show SWp E C _ _ _
      refine SWp.seq ?_
      refine SWp.block ?_
      refine SWp.seqR rfl (hPB _ rfl) fun K hK => ?_
      obtain ⟨e46, he46, h41⟩ := bind_some h41
      obtain ⟨he46a, he46b, he46c, he46d⟩ := getI_some he46
      iterate 3 (refine wps_cons rfl fun K hK => ?_; simp [hN', he46a, he46b, he46c, he46d]; refine hK _ ?_; clear hK)
      refine wps_nil (hK _ ?_); clear hK
      refine SWp.seqR rfl (hPB _ rfl) fun K hK => ?_
      iterate 2 (refine wps_cons rfl fun K hK => ?_; simp [hN']; refine hK _ ?_; clear hK)
      obtain ⟨r47, hc48, h41⟩ := bind_some h41
      refine wps_call [(.bor, .tmp 76), (.take, .tmp 77)] rfl rfl ent69 (impl_hasInt_ok _ _ hc48) fun K hK => ?_; simp [hN']; refine hK _ ?_; clear hK
      refine wps_cons rfl fun K hK => ?_; simp [hN']; refine hK _ ?_; clear hK
      refine wps_nil (hK _ ?_); clear hK
      rcases ite_or h41 with ⟨hb49, h41⟩ | ⟨hb50, h41⟩
      · refine SWp.condT' (b := !r47) (by simp) hb49 ?_
        refine SWp.reg rfl (hPB _ rfl) fun K hK => ?_
        iterate 3 (refine wps_cons rfl fun K hK => ?_; simp [hN']; refine hK _ ?_; clear hK)
        obtain ⟨l51, hl51, h41⟩ := bind_some h41
        obtain ⟨hl51a, hl51b, hl51d⟩ := appI_some hl51
        have hl51f : List.map vi out39 ++ List.map vi [e46] = List.map vi l51 := app_map (f := vi) hl51d
        simp [eSl] at hl51a hl51b hl51f
        iterate 2 (refine wps_cons rfl fun K hK => ?_; simp [hN', hl51a, hl51b, hl51f]; refine hK _ ?_; clear hK)
        refine wps_nil (hK _ ?_); clear hK
        show SWp E C _ _ _
        refine SWp.reg rfl (hPB _ rfl) fun K hK => ?_
        iterate 2 (refine wps_cons rfl fun K hK => ?_; simp [hN']; refine hK _ ?_; clear hK)
        refine wps_nil (hK _ ?_); clear hK
        cases h41
        exact ⟨_, [], rfl, by simp [hN']⟩
      · refine SWp.condF' (b := !r47) (by simp) hb50 ?_
        refine SWp.skip ?_
        show SWp E C _ _ _
        refine SWp.reg rfl (hPB _ rfl) fun K hK => ?_
        iterate 2 (refine wps_cons rfl fun K hK => ?_; simp [hN']; refine hK _ ?_; clear hK)
        refine wps_nil (hK _ ?_); clear hK
        cases h41
        exact ⟨_, [], rfl, by simp [hN']⟩
    · refine SWp.condF' (b := decide (v40 < (l35.length : Int))) (by simp) hb45 ?_
      refine SWp.exit ?_
      have h52 := congrArg some (ho42 _ (Option.some.inj h41).symm)
      cases h52
      exact hK37 _ () [] trivial (by simp [hN'])
  refine SWp.seqR rfl (hPB _ rfl) fun K hK => ?_
  iterate 2 (refine wps_cons rfl fun K hK => ?_; simp [hN']; refine hK _ ?_; clear hK)
  refine wps_nil (hK _ ?_); clear hK
  cases h
  refine SWp.ret ?_
  simp [thenS, inBlockS, res75]
end Go.Proofs.T
set_option linter.unusedVariables false
set_option linter.unusedSimpArgs false
set_option maxHeartbeats 1000000
namespace Go.Proofs.T
open Go.OM
theorem res35 : Tryd.f35.results.toList = [.tmp 2] := rfl
theorem ent35 : Enters E.P 35 := enters_of Tryd.func35 (by simp [Tryd.f35]) rfl
theorem impl_Moves_ok (c1 : GCode) {r0 : Int} (h : impl_Moves c1 = some r0) : Ok E 35 [.val (GCode.enc false c1)] [vi r0] [] := by
  refine ok_of_body (fn := Tryd.f35) Tryd.func35 rfl (by simp [Tryd.f35]) fun C hN hP => ?_
  have hPB : ∀ l, pinK [] l = true → pinB C.pin l = true := pinB_of (by rw [hP]; rfl)
  have hN' : C.N = 36 := hN
  clear hN
  unfold impl_Moves at h
  refine SWp.seqR rfl (hPB _ rfl) fun K hK => ?_
  iterate 2 (refine wps_cons rfl fun K hK => ?_; simp [hN']; refine hK _ ?_; clear hK)
  refine wps_nil (hK _ ?_); clear hK
  refine SWp.seqR rfl (hPB _ rfl) fun K hK => ?_
  refine wps_cons rfl fun K hK => ?_; simp [hN']; refine hK _ ?_; clear hK
  obtain ⟨r2, hc3, h⟩ := bind_some h
  refine wps_call [(.take, .tmp 7)] rfl rfl ent37 (impl_HasAt_ok _ hc3) fun K hK => ?_; simp [hN']; refine hK _ ?_; clear hK
  refine wps_cons rfl fun K hK => ?_; simp [hN']; refine hK _ ?_; clear hK
  refine wps_nil (hK _ ?_); clear hK
  obtain ⟨j6, hj4, h⟩ := bind_some h
  refine SWp.seqC [] [] (fun v : Unit => ⟨[], []⟩) (fun v => j6 = Sum.inl v) (fun v hv => ?_) fun K5 hK5 => ?_
  rotate_left
  · refine SWp.seqR rfl (hPB _ rfl) fun K hK => ?_
    iterate 3 (refine wps_cons rfl fun K hK => ?_; simp [hN']; refine hK _ ?_; clear hK)
    refine wps_nil (hK _ ?_); clear hK
    refine SWp.block ?_
    refine SWp.loopO [] [1, 3, 10, 11] [1] (fun v : Int => ⟨[(1, .ref (.box 1) 0 []), (3, .t (.sl true 1 (List.map (eSl true 1 vb) r2))), (10, .t (vi (r2.length : Int))), (11, .t (vi v))], [(1, [vs c1.Name, vi c1.Params, .sl false 1 (List.map vi c1.Locals), .sl false 7 (List.map (GIns.enc false) c1.Words)])]⟩) (impl_Moves_l1 c1 r2) _ 0 hj4 (by simp [hN']) ?_
    intro g s10 h8 ho9
    obtain ⟨v7, hg⟩ : ∃ y, y = g := ⟨_, rfl⟩
    subst hg
    simp only [impl_Moves_l1] at h8
    try dsimp only
    refine SWp.seqR rfl (hPB _ rfl) fun K hK => ?_
    refine wps_cons rfl fun K hK => ?_; simp [hN']; refine hK _ ?_; clear hK
    refine wps_nil (hK _ ?_); clear hK
    refine SWp.seq ?_
    rcases ite_or h8 with ⟨hb11, h8⟩ | ⟨hb12, h8⟩
    · refine SWp.condT' (b := decide (v7 < (r2.length : Int))) (by simp) hb11 ?_
      refine SWp.skip ?_
      show SWp E C _ _ _
      obtain ⟨j15, hj13, h8⟩ := bind_some h8
      refine SWp.seqC [1, 3, 10, 11] [1] (fun v : Unit => ⟨[(1, .ref (.box 1) 0 []), (3, .t (.sl true 1 (List.map (eSl true 1 vb) r2))), (10, .t (vi (r2.length : Int))), (11, .t (vi v7))], [(1, [vs c1.Name, vi c1.Params, .sl false 1 (List.map vi c1.Locals), .sl false 7 (List.map (GIns.enc false) c1.Words)])]⟩) (fun v => j15 = Sum.inl v) (fun v hv => ?_) fun K14 hK14 => ?_
      rotate_left
      · refine SWp.block ?_
        refine SWp.seqR rfl (hPB _ rfl) fun K hK => ?_
        iterate 2 (refine wps_cons rfl fun K hK => ?_; simp [hN']; refine hK _ ?_; clear hK)
        refine wps_nil (hK _ ?_); clear hK
        refine SWp.seqR rfl (hPB _ rfl) fun K hK => ?_
        iterate 3 (refine wps_cons rfl fun K hK => ?_; simp [hN']; refine hK _ ?_; clear hK)
        obtain ⟨e16, he16, hj13⟩ := bind_some hj13
        obtain ⟨he16a, he16b, he16c, he16d⟩ := getI_some he16
        iterate 2 (refine wps_cons rfl fun K hK => ?_; simp [hN', he16a, he16b, he16c, he16d]; refine hK _ ?_; clear hK)
        obtain ⟨r17, hc18, hj13⟩ := bind_some hj13
        refine wps_call [(.take, .tmp 18)] rfl rfl ent75 (impl_Reads_ok _ hc18) fun K hK => ?_; simp [hN', he16a, he16b, he16c, he16d]; refine hK _ ?_; clear hK
        iterate 2 (refine wps_cons rfl fun K hK => ?_; simp [hN', he16a, he16b, he16c, he16d]; refine hK _ ?_; clear hK)
        refine wps_nil (hK _ ?_); clear hK
        refine SWp.block ?_
        refine SWp.loopO [] [1, 3, 4, 10, 11, 19, 20, 21] [1] (fun v : Int => ⟨[(1, .ref (.box 1) 0 []), (3, .t (.sl true 1 (List.map (eSl true 1 vb) r2))), (4, .t (vi v7)), (10, .t (vi (r2.length : Int))), (11, .t (vi v7)), (19, .t (.sl true 1 (List.map vi r17))), (20, .t (vi (r17.length : Int))), (21, .t (vi v))], [(1, [vs c1.Name, vi c1.Params, .sl false 1 (List.map vi c1.Locals), .sl false 7 (List.map (GIns.enc false) c1.Words)])]⟩) (impl_Moves_l2 r2 v7 r17) _ 0 hj13 (by simp [hN']) ?_
        intro g s22 h20 ho21
        obtain ⟨v19, hg⟩ : ∃ y, y = g := ⟨_, rfl⟩
        subst hg
        simp only [impl_Moves_l2] at h20
        try dsimp only
        refine SWp.seqR rfl (hPB _ rfl) fun K hK => ?_
        refine wps_cons rfl fun K hK => ?_; simp [hN']; refine hK _ ?_; clear hK
        refine wps_nil (hK _ ?_); clear hK
        refine SWp.seq ?_
        rcases ite_or h20 with ⟨hb23, h20⟩ | ⟨hb24, h20⟩
        · refine SWp.condT' (b := decide (v19 < (r17.length : Int))) (by simp) hb23 ?_
          refine SWp.skip ?_
          show SWp E C _ _ _
          refine SWp.seq ?_
          refine SWp.block ?_
          refine SWp.seqR rfl (hPB _ rfl) fun K hK => ?_
          obtain ⟨e25, he25, h20⟩ := bind_some h20
          obtain ⟨he25a, he25b, he25c, he25d⟩ := getI_some he25
          iterate 3 (refine wps_cons rfl fun K hK => ?_; simp [hN', he25a, he25b, he25c, he25d]; refine hK _ ?_; clear hK)
          refine wps_nil (hK _ ?_); clear hK
          refine SWp.seqR rfl (hPB _ rfl) fun K hK => ?_
          iterate 2 (refine wps_cons rfl fun K hK => ?_; simp [hN']; refine hK _ ?_; clear hK)
          obtain ⟨e26, he26, h20⟩ := bind_some h20
          obtain ⟨he26a, he26b, he26c, he26d⟩ := getI_some he26
          iterate 3 (refine wps_cons rfl fun K hK => ?_; simp [hN', he26a, he26b, he26c, he26d]; refine hK _ ?_; clear hK)
          obtain ⟨e27, he27, h20⟩ := bind_some h20
          obtain ⟨he27a, he27b, he27c, he27d⟩ := getI_some he27
          iterate 3 (refine wps_cons rfl fun K hK => ?_; simp [hN', he26a, he26b, he26c, he26d, he27a, he27b, he27c, he27d]; refine hK _ ?_; clear hK)
          refine wps_nil (hK _ ?_); clear hK
          rcases ite_or h20 with ⟨hb28, h20⟩ | ⟨hb29, h20⟩
          · refine SWp.condT' (b := !e27) (by simp) hb28 ?_
            refine SWp.seqR rfl (hPB _ rfl) fun K hK => ?_
            iterate 2 (refine wps_cons rfl fun K hK => ?_; simp [hN']; refine hK _ ?_; clear hK)
            refine wps_nil (hK _ ?_); clear hK
            have h30 := congrArg some (ho21 _ (Option.some.inj h20).symm)
            cases h30
            try dsimp only at h8
            have h31 := congrArg some (ho9 _ (Option.some.inj h8).symm)
            cases h31
            try dsimp only at h
            cases h
            refine SWp.ret ?_
            simp [thenS, inBlockS, res35]
          · refine SWp.condF' (b := !e27) (by simp) hb29 ?_
            refine SWp.skip ?_
            show SWp E C _ _ _
            refine SWp.reg rfl (hPB _ rfl) fun K hK => ?_
            iterate 2 (refine wps_cons rfl fun K hK => ?_; simp [hN']; refine hK _ ?_; clear hK)
            refine wps_nil (hK _ ?_); clear hK
            cases h20
            exact ⟨_, [], rfl, by simp [hN']⟩
        · refine SWp.condF' (b := decide (v19 < (r17.length : Int))) (by simp) hb24 ?_
          refine SWp.exit ?_
          have h32 := congrArg some (ho21 _ (Option.some.inj h20).symm)
          cases h32
          exact hK14 _ _ [] rfl (by simp [hN'])
      subst hv
      obtain ⟨⟩ := v
      try dsimp only at h8 ⊢
      refine SWp.reg rfl (hPB _ rfl) fun K hK => ?_
      iterate 2 (refine wps_cons rfl fun K hK => ?_; simp [hN']; refine hK _ ?_; clear hK)
      refine wps_nil (hK _ ?_); clear hK
      cases h8
      exact ⟨_, [], rfl, by simp [hN']⟩
    · refine SWp.condF' (b := decide (v7 < (r2.length : Int))) (by simp) hb12 ?_
      refine SWp.exit ?_
      have h33 := congrArg some (ho9 _ (Option.some.inj h8).symm)
      cases h33
      exact hK5 _ _ [] rfl (by simp [hN'])
  subst hv
  obtain ⟨⟩ := v
  try dsimp only at h ⊢
  refine SWp.seqR rfl (hPB _ rfl) fun K hK => ?_
  refine wps_cons rfl fun K hK => ?_; simp [hN']; refine hK _ ?_; clear hK
  refine wps_nil (hK _ ?_); clear hK
  cases h
  refine SWp.ret ?_
  simp [thenS, inBlockS, res35]
end Go.Proofs.T
set_option linter.unusedVariables false
set_option linter.unusedSimpArgs false
set_option maxHeartbeats 1000000
namespace Go.Proofs.T
open Go.OM
theorem res8 : Tryd.f8.results.toList = [.tmp 2] := rfl
theorem ent8 : Enters E.P 8 := enters_of Tryd.func8 (by simp [Tryd.f8]) rfl
theorem laws_FnExactMoves_ok (aC1 : GCode) {r0 : Bool} (h : laws_FnExactMoves aC1 = some r0) : Ok E 8 [.val (GCode.enc false aC1)] [vb r0] [] := by
  refine ok_of_body (fn := Tryd.f8) Tryd.func8 rfl (by simp [Tryd.f8]) fun C hN hP => ?_
  have hPB : ∀ l, pinK [] l = true → pinB C.pin l = true := pinB_of (by rw [hP]; rfl)
  have hN' : C.N = 27 := hN
  clear hN
  unfold laws_FnExactMoves at h
  refine SWp.seqR rfl (hPB _ rfl) fun K hK => ?_
  iterate 2 (refine wps_cons rfl fun K hK => ?_; simp [hN']; refine hK _ ?_; clear hK)
  refine wps_nil (hK _ ?_); clear hK
  refine SWp.seqR rfl (hPB _ rfl) fun K hK => ?_
  refine wps_cons rfl fun K hK => ?_; simp [hN']; refine hK _ ?_; clear hK
  refine wps_nil (hK _ ?_); clear hK
  refine SWp.seqR rfl (hPB _ rfl) fun K hK => ?_
  iterate 2 (refine wps_cons rfl fun K hK => ?_; simp [hN']; refine hK _ ?_; clear hK)
  obtain ⟨r2, hc3, h⟩ := bind_some h
  refine wps_call [(.take, .tmp 7), (.take, .tmp 8)] rfl rfl ent13 (laws_szCode_ok _ _ hc3) fun K hK => ?_; simp [hN']; refine hK _ ?_; clear hK
  refine wps_cons rfl fun K hK => ?_; simp [hN']; refine hK _ ?_; clear hK
  refine wps_nil (hK _ ?_); clear hK
  refine SWp.seq ?_
  refine SWp.seqR rfl (hPB _ rfl) fun K hK => ?_
  iterate 2 (refine wps_cons rfl fun K hK => ?_; simp [hN']; refine hK _ ?_; clear hK)
  refine wps_nil (hK _ ?_); clear hK
  rcases ite_or h with ⟨hb4, h⟩ | ⟨hb5, h⟩
  · refine SWp.condT' (b := decide (r2 < 0)) (by simp) hb4 ?_
    refine SWp.seqR rfl (hPB _ rfl) fun K hK => ?_
    refine wps_cons rfl fun K hK => ?_; simp [hN']; refine hK _ ?_; clear hK
    refine wps_nil (hK _ ?_); clear hK
    cases h
    refine SWp.ret ?_
    simp [thenS, inBlockS, res8]
  · refine SWp.condF' (b := decide (r2 < 0)) (by simp) hb5 ?_
    refine SWp.skip ?_
    show SWp E C _ _ _
    refine SWp.seqR rfl (hPB _ rfl) fun K hK => ?_
    refine wps_cons rfl fun K hK => ?_; simp [hN']; refine hK _ ?_; clear hK
    obtain ⟨r6, hc7, h⟩ := bind_some h
    refine wps_call [(.take, .tmp 12)] rfl rfl ent15 (laws_toCode_ok _ hc7) fun K hK => ?_; simp [hN']; refine hK _ ?_; clear hK
    obtain ⟨r8, hc9, h⟩ := bind_some h
    refine wps_call [(.bor, .tmp 13)] rfl rfl ent34 (spec_Moves_ok _ hc9) fun K hK => ?_; simp [hN']; refine hK _ ?_; clear hK
    refine wps_cons rfl fun K hK => ?_; simp [hN']; refine hK _ ?_; clear hK
    refine wps_nil (hK _ ?_); clear hK
    refine SWp.seqR rfl (hPB _ rfl) fun K hK => ?_
    refine wps_cons rfl fun K hK => ?_; simp [hN']; refine hK _ ?_; clear hK
    obtain ⟨r10, hc11, h⟩ := bind_some h
    refine wps_call [(.take, .tmp 15)] rfl rfl ent15 (laws_toCode_ok _ hc11) fun K hK => ?_; simp [hN']; refine hK _ ?_; clear hK
    iterate 2 (refine wps_cons rfl fun K hK => ?_; simp [hN']; refine hK _ ?_; clear hK)
    refine wps_nil (hK _ ?_); clear hK
    refine SWp.seqR rfl (hPB _ rfl) fun K hK => ?_
    refine wps_cons rfl fun K hK => ?_; simp [hN']; refine hK _ ?_; clear hK
    obtain ⟨r12, hc13, h⟩ := bind_some h
    refine wps_call [(.bor, .tmp 17)] rfl rfl ent35 (impl_Moves_ok _ hc13) fun K hK => ?_; simp [hN']; refine hK _ ?_; clear hK
    refine wps_cons rfl fun K hK => ?_; simp [hN']; refine hK _ ?_; clear hK
    refine wps_nil (hK _ ?_); clear hK
    refine SWp.seq ?_
    refine SWp.seqR rfl (hPB _ rfl) fun K hK => ?_
    iterate 3 (refine wps_cons rfl fun K hK => ?_; simp [hN']; refine hK _ ?_; clear hK)
    refine wps_nil (hK _ ?_); clear hK
    rcases ite_or h with ⟨hb14, h⟩ | ⟨hb15, h⟩
    · refine SWp.condT' (b := r12 != r8) (by simp) hb14 ?_
      refine SWp.seqR rfl (hPB _ rfl) fun K hK => ?_
      refine wps_cons rfl fun K hK => ?_; simp [hN']; refine hK _ ?_; clear hK
      refine wps_nil (hK _ ?_); clear hK
      cases h
      refine SWp.ret ?_
      simp [thenS, inBlockS, res8]
    · refine SWp.condF' (b := r12 != r8) (by simp) hb15 ?_
      refine SWp.skip ?_
      show SWp E C _ _ _
      refine SWp.seq ?_
      refine SWp.seq ?_
      obtain ⟨r17, hc18, h⟩ := bind_some h
      refine SWp.drawT rfl (hPB _ rfl) [(22, .al (.box 5) 0 [] (some 4)), (23, .t (GCode.enc false aC1)), (24, .t (GCode.enc true r17))] [[], [], [1], [0, 1, 2], [0, 1, 2, 3]] (by simp) (by simp) (by simp [look]) rfl rfl rfl ?_ fun K hK => ?_
      · refine ⟨?_, ?_, ?_, trivial⟩
        all_goals (intro τ hbx hb hd hf K hK; try simp [vsAt] at hd; simp [vsAt] at hf; first | (refine wps_cons rfl fun K' hK' => ?_; simp [hN', hbx, hb, hd, hf]; exact hK' _ (wps_nil (hK _ (by simp [vsAt, hbx])))) | (refine wps_call [(.take, .tmp 23)] rfl rfl ent15 (laws_toCode_ok _ hc18) fun K' hK' => ?_; simp [hN', hbx, hb, hd, hf]; exact hK' _ (wps_nil (hK _ (by simp [vsAt, hbx])))))
      obtain ⟨r19, hc20, h⟩ := bind_some h
      refine wps_call [(.bor, .tmp 22), (.bor, .tmp 24)] rfl rfl ent18 (laws_eqCode_ok _ _ hc20) fun K hK => ?_; simp [hN']; refine hK _ ?_; clear hK
      refine wps_cons rfl fun K hK => ?_; simp [hN']; refine hK _ ?_; clear hK
      refine wps_nil (hK _ ?_); clear hK
      show SWp E C _ _ _
      rcases ite_or h with ⟨hb21, h⟩ | ⟨hb22, h⟩
      · refine SWp.condT' (b := !r19) (by simp) hb21 ?_
        refine SWp.seqR rfl (hPB _ rfl) fun K hK => ?_
        refine wps_cons rfl fun K hK => ?_; simp [hN']; refine hK _ ?_; clear hK
        refine wps_nil (hK _ ?_); clear hK
        cases h
        refine SWp.ret ?_
        simp [thenS, inBlockS, res8]
      · refine SWp.condF' (b := !r19) (by simp) hb22 ?_
        refine SWp.skip ?_
        show SWp E C _ _ _
        refine SWp.seqR rfl (hPB _ rfl) fun K hK => ?_
        refine wps_cons rfl fun K hK => ?_; simp [hN']; refine hK _ ?_; clear hK
        refine wps_nil (hK _ ?_); clear hK
        cases h
        refine SWp.ret ?_
        simp [thenS, inBlockS, res8]
end Go.Proofs.T
set_option linter.unusedVariables false
set_option linter.unusedSimpArgs false
namespace Go.OM
/-! ### Plain words on loops over rows -/
theorem w64 {n : Int} (h1 : -9223372036854775808 ≤ n) (h2 : n ≤ 9223372036854775807) : IntKind.wrap .i64 n = n := wrap64 h1 h2
theorem w64_succ {k n : Nat} (hk : k < n) (hn : n ≤ maxLen) : IntKind.wrap .i64 ((k : Int) + 1) = ((k + 1 : Nat) : Int) := by
  have hn' : n ≤ 9223372036854775807 := hn
  rw [w64 (by omega) (by omega)]; omega
@[simp] theorem getI_nat {α : Type} (l : List α) (k : Nat) : getI l (k : Int) = l[k]? := by simp [getI]
theorem getI_at {α : Type} {l : List α} {k : Nat} (hk : k < l.length) : getI l (k : Int) = some l[k] := by simp [hk]
theorem getI_zero {α : Type} (l : List α) : getI l 0 = l[0]? := by simp [getI]
theorem sEq_iff (x y : ByteArray) : sEq x y = decide (x = y) := by
  unfold sEq
  have hxy : x.toList = y.toList ↔ x = y := by
    constructor
    · intro h
      have hx : ∀ z : ByteArray, z.toList = z.data.toList := by
        intro z
        have loop : ∀ (n i : Nat) (r : List UInt8), z.size - i = n → ByteArray.toList.loop z i r = r.reverse ++ z.data.toList.drop i := by
          intro n
          induction n with
          | zero =>
            intro i r hn
            unfold ByteArray.toList.loop
            rw [if_neg (by omega), List.drop_eq_nil_of_le (by have : z.data.toList.length = z.size := Array.length_toList
                                                              omega)]
            simp
          | succ n ih =>
            intro i r hn
            unfold ByteArray.toList.loop
            rw [if_pos (by omega), ih (i + 1) _ (by omega)]
            have hlt : i < z.data.toList.length := by have : z.data.toList.length = z.size := Array.length_toList
                                                      omega
            rw [List.drop_eq_getElem_cons hlt]
            have hz : i < z.size := by omega
            simp [ByteArray.get!, Array.getElem!_eq_getD, Array.getD, hz]
        unfold ByteArray.toList
        rw [loop _ 0 [] rfl]; simp
      rw [hx, hx] at h
      cases x; cases y
      simp only [ByteArray.mk.injEq]
      exact Array.toList_inj.1 h
    · intro h; rw [h]
  by_cases h : x = y
  · simp [h]
  · have : ¬ (x.toList = y.toList) := fun e => h (hxy.1 e)
    simp [h, this]
theorem ofNat_lt_true {k n : Nat} (h : k < n) : decide ((k : Int) < (n : Int)) = true := by simpa using h
theorem len_not_lt (n : Nat) : decide ((n : Int) < (n : Int)) = false := by simp
/-- Sizes of a row. -/
theorem szS_gen {α : Type} (ok : α → Prop) (a : List α) (f : Int × Int → Option ((Int × Int) ⊕ (Int ⊕ Int))) (B : Int)
    (hf : ∀ (m : Int) (k : Nat) (h0 : 0 ≤ m) (h1 : m ≤ B) (hk : k < a.length), ∃ r, r ≤ m ∧ (0 ≤ r → ok a[k]) ∧ f (m, k) = some (if r < 0 then .inr (.inr (-1)) else .inl (r, ((k + 1 : Nat) : Int))))
    (he : ∀ m, f (m, a.length) = some (.inr (.inl m))) (n : Int) (h0 : 0 ≤ n) (h1 : n ≤ B) :
    ∃ j, loopP f (n, 0) = some j ∧ (j = .inr (-1) ∨ ∃ m, j = .inl m ∧ 0 ≤ m ∧ m ≤ n ∧ ∀ x ∈ a, ok x) := by
  refine loopP_run (f := f) (fun s : Int × Int => ∃ k : Nat, s.2 = k ∧ k ≤ a.length ∧ 0 ≤ s.1 ∧ s.1 ≤ n ∧ ∀ (j : Nat) (h : j < a.length), j < k → ok a[j]) (fun s => a.length - s.2.toNat) _ ?_ (n, 0) ⟨0, rfl, by omega, h0, by simp, fun j _ h => by omega⟩
  rintro ⟨m, i⟩ ⟨k, hi, hk, h2, h3, h4⟩
  simp only at hi h2 h3
  subst hi
  by_cases hlt : k < a.length
  · obtain ⟨r, r1, r2, r3⟩ := hf m k h2 (by omega) hlt
    rw [r3]
    by_cases hr : r < 0
    · right
      rw [if_pos hr]
      exact ⟨_, rfl, .inl rfl⟩
    · left
      rw [if_neg hr]
      refine ⟨_, rfl, ⟨k + 1, rfl, by omega, by simp only; omega, by simp only; omega, fun j h hj => ?_⟩, ?_⟩
      · by_cases e : j = k
        · subst e; exact r2 (by omega)
        · exact h4 j h (by omega)
      · simp only [Int.toNat_natCast]; omega
  · right
    have hke : k = a.length := by omega
    subst hke
    rw [he]
    refine ⟨_, rfl, .inr ⟨m, rfl, h2, h3, fun x hx => ?_⟩⟩
    obtain ⟨j, hj, rfl⟩ := List.mem_iff_getElem.1 hx
    exact h4 j hj hj
/-- Rows copied. -/
theorem toS_gen {α : Type} (a : List α) (z : α) (f : List α × Int → Option ((List α × Int) ⊕ List α))
    (hf : ∀ (out : List α) (k : Nat) (hk : k < a.length), out.length = a.length → f (out, k) = some (.inl (out.set k a[k], ((k + 1 : Nat) : Int))))
    (he : ∀ out, f (out, a.length) = some (.inr out)) : loopP f (List.replicate a.length z, 0) = some a := by
  obtain ⟨r, h1, h2⟩ := loopP_run (fun s : List α × Int => ∃ k : Nat, s.2 = k ∧ k ≤ a.length ∧ s.1.length = a.length ∧ ∀ j, j < k → s.1[j]? = a[j]?) (fun s => a.length - s.2.toNat) (fun r => r = a) (f := f) (by
    rintro ⟨out, i⟩ ⟨k, hi, hk, h2, h3⟩
    simp only at hi h2 h3
    subst hi
    by_cases hlt : k < a.length
    · left
      rw [hf out k hlt h2]
      refine ⟨_, rfl, ⟨k + 1, rfl, by omega, by simpa using h2, fun j hj => ?_⟩, by simp only [Int.toNat_natCast]; omega⟩
      simp only [List.getElem?_set]
      by_cases e : k = j
      · subst e; simp [h2, hlt]
      · rw [if_neg e]; exact h3 j (by omega)
    · right
      have hke : k = a.length := by omega
      subst hke
      rw [he]
      refine ⟨_, rfl, ?_⟩
      apply List.ext_getElem?
      intro j
      by_cases hj : j < a.length
      · exact h3 j hj
      · rw [List.getElem?_eq_none (by omega), List.getElem?_eq_none (by omega)]) (List.replicate a.length z, 0) ⟨0, rfl, by omega, by simp, fun j h => by omega⟩
  rw [h1, h2]
/-- Rows held against each other. -/
theorem eqS_gen {α : Type} (a b : List α) (p : α → α → Bool) (hp : ∀ x ∈ a, ∀ y, y ∈ b → (p x y = true ↔ x = y)) (hlen : a.length = b.length) (f : Int → Option (Int ⊕ (Unit ⊕ Bool)))
    (hf : ∀ (k : Nat) (hk : k < a.length) (hk2 : k < b.length), f k = some (if p a[k] b[k] = true then .inl ((k + 1 : Nat) : Int) else .inr (.inr false)))
    (he : f a.length = some (.inr (.inl ()))) : (a = b → loopP f 0 = some (.inl ())) ∧ (a ≠ b → loopP f 0 = some (.inr false)) := by
  obtain ⟨r, h1, h2⟩ := loopP_run (fun i : Int => ∃ k : Nat, i = k ∧ k ≤ a.length ∧ ∀ j, j < k → a[j]? = b[j]?) (fun i => a.length - i.toNat) (fun r => (r = .inl () ∧ a = b) ∨ (r = .inr false ∧ a ≠ b)) (f := f) (by
    rintro i ⟨k, rfl, hk, h3⟩
    by_cases hlt : k < a.length
    · have hlt2 : k < b.length := by omega
      rw [hf k hlt hlt2]
      by_cases hpk : p a[k] b[k] = true
      · left
        rw [if_pos hpk]
        refine ⟨_, rfl, ⟨k + 1, rfl, by omega, fun j hj => ?_⟩, by simp only [Int.toNat_natCast]; omega⟩
        by_cases e : j = k
        · subst e
          rw [List.getElem?_eq_getElem hlt, List.getElem?_eq_getElem hlt2, (hp _ (List.getElem_mem hlt) _ (List.getElem_mem hlt2)).1 hpk]
        · exact h3 j (by omega)
      · right
        rw [if_neg hpk]
        refine ⟨_, rfl, .inr ⟨rfl, fun e => hpk ?_⟩⟩
        subst e
        exact (hp _ (List.getElem_mem hlt) _ (List.getElem_mem hlt)).2 rfl
    · right
      have hke : k = a.length := by omega
      subst hke
      rw [he]
      refine ⟨_, rfl, .inl ⟨rfl, ?_⟩⟩
      apply List.ext_getElem?
      intro j
      by_cases hj : j < a.length
      · exact h3 j hj
      · rw [List.getElem?_eq_none (by omega), List.getElem?_eq_none (by omega)]) 0 ⟨0, rfl, by omega, fun j h => by omega⟩
  rcases h2 with ⟨e, hab⟩ | ⟨e, hab⟩
  · exact ⟨fun _ => by rw [h1, e], fun h => absurd hab h⟩
  · exact ⟨fun h => absurd h hab, fun _ => by rw [h1, e]⟩
theorem mkI_len {α : Type} (b : Int) (n : Nat) (z : α) (h1 : b * n ≤ 140737488355328) (h2 : (n : Int) ≤ 140737488355328) : mkI b (n : Int) z = some (List.replicate n z) := by
  unfold mkI
  rw [if_pos ⟨by omega, h1, h2⟩]
  simp
theorem bindS_def {α β : Type} (x : α) (f : α → β) : bindS x f = f x := rfl
end Go.OM
set_option linter.unusedVariables false
set_option linter.unusedSimpArgs false
namespace Go.OM
/-! ### Loops, marks -/
theorem loopP_inr {α ρ : Type} {f : α → Option (α ⊕ ρ)} {a : α} {r : ρ} (h : f a = some (.inr r)) : loopP f a = some r := by rw [loopP_eq, h]; rfl
theorem loopP_inl {α ρ : Type} {f : α → Option (α ⊕ ρ)} {a b : α} (h : f a = some (.inl b)) : loopP f a = loopP f b := by rw [loopP_eq, h]; rfl
/-- A loop over a row that looks for something. -/
theorem loopP_find {α ρ : Type} (l : List α) (q : α → Option ρ) (f : Int → Option (Int ⊕ (Unit ⊕ ρ)))
    (hf : ∀ (k : Nat) (h : k < l.length), f k = some (match q l[k] with | none => .inl ((k + 1 : Nat) : Int) | some r => .inr (.inr r)))
    (he : f l.length = some (.inr (.inl ()))) : loopP f 0 = some (match l.findSome? q with | some r => .inr r | none => .inl ()) := by
  have key : ∀ (n k : Nat), n = l.length - k → k ≤ l.length → loopP f k = some (match (l.drop k).findSome? q with | some r => .inr r | none => .inl ()) := by
    intro n
    induction n with
    | zero =>
      intro k hn hk
      have : k = l.length := by omega
      subst this
      rw [loopP_inr he, List.drop_length]; rfl
    | succ n ih =>
      intro k hn hk
      have hlt : k < l.length := by omega
      rw [List.drop_eq_getElem_cons hlt, List.findSome?_cons]
      cases hq : q l[k] with
      | none =>
        have h1 := hf k hlt
        rw [hq] at h1
        rw [loopP_inl h1]
        exact ih (k + 1) (by omega) (by omega)
      | some r =>
        have h1 := hf k hlt
        rw [hq] at h1
        rw [loopP_inr h1]
  have := key l.length 0 (by omega) (by omega)
  simpa using this
theorem find_all {α : Type} (l : List α) (p : α → Bool) (b : Bool) : l.findSome? (fun x => if p x = true then none else some b) = if l.all p = true then none else some b := by
  induction l with
  | nil => rfl
  | cons x l ih =>
    rw [List.findSome?_cons, List.all_cons]
    cases hp : p x <;> simp [ih]
theorem find_any {α : Type} (l : List α) (p : α → Bool) (b : Bool) : l.findSome? (fun x => if p x = true then some b else none) = if l.any p = true then some b else none := by
  induction l with
  | nil => rfl
  | cons x l ih =>
    rw [List.findSome?_cons, List.any_cons]
    cases hp : p x <;> simp [ih]
/-- A loop that goes over a row and asks all of them. -/
theorem loopP_all {α : Type} (l : List α) (p : α → Bool) (f : Int → Option (Int ⊕ (Unit ⊕ Bool)))
    (hf : ∀ (k : Nat) (h : k < l.length), f k = some (if p l[k] = true then .inl ((k + 1 : Nat) : Int) else .inr (.inr false)))
    (he : f l.length = some (.inr (.inl ()))) : loopP f 0 = some (if l.all p = true then .inl () else .inr false) := by
  rw [loopP_find l (fun x => if p x = true then none else some false) f (fun k h => by rw [hf k h]; cases p l[k] <;> rfl) he, find_all]
  cases l.all p <;> rfl
theorem loopP_any {α : Type} (l : List α) (p : α → Bool) (f : Int → Option (Int ⊕ (Unit ⊕ Bool)))
    (hf : ∀ (k : Nat) (h : k < l.length), f k = some (if p l[k] = true then .inr (.inr true) else .inl ((k + 1 : Nat) : Int)))
    (he : f l.length = some (.inr (.inl ()))) : loopP f 0 = some (if l.any p = true then .inr true else .inl ()) := by
  rw [loopP_find l (fun x => if p x = true then some true else none) f (fun k h => by rw [hf k h]; cases p l[k] <;> rfl) he, find_any]
  cases l.any p <;> rfl
/-- A loop over a row that carries something, and may stop. -/
def foldE {α σ ρ : Type} (g : σ → α → σ ⊕ ρ) (fin : σ → ρ) : List α → σ → ρ
  | [], s => fin s
  | x :: l, s => match g s x with
    | .inl s' => foldE g fin l s'
    | .inr r => r
theorem loopP_fold {α σ τ ρ : Type} (l : List α) (mk : σ → Nat → τ) (I : Nat → σ → Prop) (g : σ → α → σ ⊕ ρ) (fin : σ → ρ) (f : τ → Option (τ ⊕ ρ))
    (hf : ∀ (s : σ) (k : Nat) (h : k < l.length), I k s → (∃ s', g s l[k] = .inl s' ∧ f (mk s k) = some (.inl (mk s' (k + 1))) ∧ I (k + 1) s') ∨ ∃ r, g s l[k] = .inr r ∧ f (mk s k) = some (.inr r))
    (he : ∀ s, I l.length s → f (mk s l.length) = some (.inr (fin s))) (s : σ) (h0 : I 0 s) : loopP f (mk s 0) = some (foldE g fin l s) := by
  have key : ∀ (n k : Nat) (s : σ), n = l.length - k → k ≤ l.length → I k s → loopP f (mk s k) = some (foldE g fin (l.drop k) s) := by
    intro n
    induction n with
    | zero =>
      intro k s hn hk hI
      have : k = l.length := by omega
      subst this
      rw [loopP_inr (he s hI), List.drop_length]; rfl
    | succ n ih =>
      intro k s hn hk hI
      have hlt : k < l.length := by omega
      rw [List.drop_eq_getElem_cons hlt]
      rcases hf s k hlt hI with ⟨s', h1, h2, h3⟩ | ⟨r, h1, h2⟩
      · rw [loopP_inl h2, ih (k + 1) s' (by omega) (by omega) h3]
        simp only [foldE, h1]
      · rw [loopP_inr h2]
        simp only [foldE, h1]
  have := key l.length 0 s (by omega) (by omega) h0
  simpa using this
/-- Marks set into a row. -/
theorem markS_gen {α : Type} (ok : α → Prop) (M : α → Int → Int → Prop) (W : Nat) (B : Int) (f : List α × Int × Int → Option ((List α × Int × Int) ⊕ (List α × Int)))
    (hf : ∀ (out : List α) (k : Int) (i : Nat) (hi : i < out.length), out.length ≤ 1048576 → 0 ≤ k → k + W ≤ B → ok out[i] → ∃ k' x', k ≤ k' ∧ k' ≤ k + W ∧ M x' k k' ∧ f (out, k, i) = some (.inl (out.set i x', k', ((i + 1 : Nat) : Int))))
    (he : ∀ out k, f (out, k, (out.length : Int)) = some (.inr (out, k)))
    (a : List α) (ha : a.length ≤ 1048576) (hok : ∀ x ∈ a, ok x) (k : Int) (h0 : 0 ≤ k) (h1 : k + W * 1048576 ≤ B) :
    ∃ k' a', loopP f (a, k, 0) = some (a', k') ∧ k ≤ k' ∧ k' ≤ k + W * 1048576 ∧ a'.length = a.length ∧ ∃ ks : Nat → Int, ks 0 = k ∧ ks a.length = k' ∧ ∀ (j : Nat) (hj : j < a'.length), M a'[j] (ks j) (ks (j + 1)) ∧ 0 ≤ ks j ∧ ks j ≤ ks (j + 1) ∧ ks j ≤ B := by
  have hWm : ∀ j : Nat, j ≤ a.length → (W : Int) * j ≤ W * 1048576 := fun j hj => Int.mul_le_mul_of_nonneg_left (by omega) (by omega)
  have hWs : ∀ j : Nat, j < a.length → (W : Int) * j + W ≤ W * 1048576 := fun j hj => by
    have : (W : Int) * j + W = W * ((j + 1 : Nat) : Int) := by rw [Int.natCast_succ, Int.mul_add, Int.mul_one]
    rw [this]
    exact Int.mul_le_mul_of_nonneg_left (by omega) (by omega)
  obtain ⟨r, g1, g2⟩ := loopP_run (f := f) (fun s : List α × Int × Int => ∃ j : Nat, s.2.2 = j ∧ j ≤ a.length ∧ s.1.length = a.length ∧ (∀ l, j ≤ l → s.1[l]? = a[l]?) ∧ k ≤ s.2.1 ∧ s.2.1 ≤ k + W * j ∧ ∃ ks : Nat → Int, ks 0 = k ∧ ks j = s.2.1 ∧ ∀ (l : Nat), l < j → ∃ x, s.1[l]? = some x ∧ M x (ks l) (ks (l + 1)) ∧ 0 ≤ ks l ∧ ks l ≤ ks (l + 1) ∧ ks l ≤ B) (fun s => a.length - s.2.2.toNat)
    (fun r => k ≤ r.2 ∧ r.2 ≤ k + W * 1048576 ∧ r.1.length = a.length ∧ ∃ ks : Nat → Int, ks 0 = k ∧ ks a.length = r.2 ∧ ∀ (j : Nat) (hj : j < r.1.length), M r.1[j] (ks j) (ks (j + 1)) ∧ 0 ≤ ks j ∧ ks j ≤ ks (j + 1) ∧ ks j ≤ B) (by
    rintro ⟨out, m, i⟩ ⟨j, hi, hj, hl, hsame, hm1, hm2, ks, e0, e1, e2⟩
    simp only at hi hl hsame hm1 hm2 e1 e2
    subst hi
    have hWj := hWm j hj
    by_cases hlt : j < a.length
    · left
      have hlt2 : j < out.length := by omega
      have hWsj := hWs j hlt
      have hoj : out[j] = a[j] := by
        have := hsame j (Nat.le_refl _)
        rw [List.getElem?_eq_getElem hlt2, List.getElem?_eq_getElem hlt] at this
        exact Option.some.inj this
      obtain ⟨k', x', q1, q2, q3, q4⟩ := hf out m j hlt2 (by omega) (by omega) (by omega) (hoj ▸ hok _ (List.getElem_mem hlt))
      refine ⟨(out.set j x', k', ((j + 1 : Nat) : Int)), q4, ⟨j + 1, rfl, by omega, by simpa using hl, fun l hl' => ?_, by simp only; omega, ?_, fun l => if l ≤ j then ks l else k', by simp [e0], by simp only [show ¬ (j + 1 ≤ j) by omega, if_false], fun l hl' => ?_⟩, by simp only [Int.toNat_natCast]; omega⟩
      · simp only
        rw [List.getElem?_set_ne (by omega)]
        exact hsame l (by omega)
      · simp only
        have : (W : Int) * ((j + 1 : Nat) : Int) = W * j + W := by rw [Int.natCast_succ, Int.mul_add, Int.mul_one]
        omega
      · by_cases hlj : l = j
        · subst hlj
          refine ⟨x', by simp [hlt2], ?_⟩
          simp only [Nat.le_refl, if_true, show ¬ (l + 1 ≤ l) by omega, if_false, e1]
          exact ⟨q3, by omega, q1, by omega⟩
        · obtain ⟨x, p1, p2⟩ := e2 l (by omega)
          refine ⟨x, by rw [List.getElem?_set_ne (by omega)]; exact p1, ?_⟩
          simp only [show l ≤ j by omega, show l + 1 ≤ j by omega, if_true]
          exact p2
    · right
      have hja : j = a.length := by omega
      subst hja
      refine ⟨(out, m), by rw [← hl]; exact he out m, hm1, by simp only; omega, hl, ks, e0, e1, fun j hj => ?_⟩
      obtain ⟨x, p1, p2⟩ := e2 j (by simp only at hj; omega)
      simp only at hj
      rw [List.getElem?_eq_getElem hj] at p1
      injection p1 with p1
      subst p1
      exact p2) (a, k, 0) ⟨0, rfl, by omega, rfl, fun _ _ => rfl, by simp, by simp, fun _ => k, rfl, rfl, fun l h => by omega⟩
  obtain ⟨a', k'⟩ := r
  exact ⟨k', a', g1, g2⟩
theorem heldS_gen {α : Type} (a : List α) (M : α → Int → Int → Prop) (B : Int) (ks : Nat → Int) (g : Int × Int → Option ((Int × Int) ⊕ (Int ⊕ Int)))
    (hk : ∀ (j : Nat) (hj : j < a.length), M a[j] (ks j) (ks (j + 1)) ∧ 0 ≤ ks j ∧ ks j ≤ ks (j + 1) ∧ ks j ≤ B)
    (hg : ∀ (j : Nat) (hj : j < a.length) (k k' : Int), M a[j] k k' → 0 ≤ k → k ≤ k' → k ≤ B → g (k, j) = some (.inl (k', ((j + 1 : Nat) : Int))))
    (he : ∀ k, g (k, (a.length : Int)) = some (.inr (.inl k))) : loopP g (ks 0, 0) = some (.inl (ks a.length)) := by
  have key : ∀ (n k : Nat), n = a.length - k → k ≤ a.length → loopP g (ks k, (k : Int)) = some (.inl (ks a.length)) := by
    intro n
    induction n with
    | zero =>
      intro k hn hk'
      have : k = a.length := by omega
      subst this
      exact loopP_inr (he _)
    | succ n ih =>
      intro k hn hk'
      have hlt : k < a.length := by omega
      obtain ⟨q1, q2, q3, q4⟩ := hk k hlt
      rw [loopP_inl (hg k hlt _ _ q1 q2 q3 q4)]
      exact ih (k + 1) (by omega) (by omega)
  exact key a.length 0 (by omega) (by omega)
theorem getI_set {α : Type} {l : List α} {k : Nat} {x : α} (hk : k < l.length) : getI (l.set k x) (k : Int) = some x := by simp [hk]
theorem sCat_ok' {x y : ByteArray} (h : x.size + y.size ≤ 9223372036854775807) : sCat x y = some (x ++ y) := by unfold sCat; rw [if_pos h]
theorem bytesOf_size' (l : List Int) : (bytesOf l).size = l.length := by simp [bytesOf, ByteArray.size]
/-- Figures laid ahead of a text. -/
theorem text_loop (f : Int × ByteArray → Option ((Int × ByteArray) ⊕ ByteArray))
    (hf : ∀ (k : Int) (o : ByteArray), 0 < k → ∃ x : Int, f (k, o) = (sCat (bytesOf [x]) o).bind fun t => some (.inl (IntKind.wrap .i64 (Int.tdiv k 10), t)))
    (he : ∀ (k : Int) (o : ByteArray), k ≤ 0 → f (k, o) = some (.inr o)) (k : Int) (h0 : 0 ≤ k) (h1 : k ≤ 9223372036854775807) :
    ∃ z, loopP f (k, ⟨#[]⟩) = some z ∧ z.size ≤ 64 := by
  obtain ⟨r, g1, g2⟩ := loopP_run (f := f) (fun s : Int × ByteArray => 0 ≤ s.1 ∧ ∃ d : Nat, d ≤ 64 ∧ s.1 < 2 ^ d ∧ s.2.size + d ≤ 64) (fun s => s.1.toNat) (fun z => z.size ≤ 64) (by
    rintro ⟨k, o⟩ ⟨g0, d, gd, g1, g2⟩
    simp only at g0 g1 g2
    by_cases hk : 0 < k
    · left
      obtain ⟨x, hx⟩ := hf k o hk
      have hd : d ≠ 0 := by rintro rfl; simp at g1; omega
      have hs : (bytesOf [x]).size = 1 := by rw [bytesOf_size']; rfl
      have hdiv : Int.tdiv k 10 = k / 10 := Int.tdiv_eq_ediv_of_nonneg g0
      have hkb : k ≤ 9223372036854775807 ∨ 9223372036854775807 < k := by omega
      have hw : IntKind.wrap .i64 (Int.tdiv k 10) = k / 10 := by
        rw [hdiv]
        have h64 : (2 : Int) ^ d ≤ 2 ^ 64 := by
          have := Nat.pow_le_pow_right (show 0 < 2 by omega) gd
          exact_mod_cast this
        exact w64 (by omega) (by simp at h64; omega)
      refine ⟨(k / 10, bytesOf [x] ++ o), ?_, ⟨by simp only; omega, d - 1, by omega, ?_, ?_⟩, by simp only; omega⟩
      · rw [hx, sCat_ok' (by omega), Option.bind_some, hw]
      · simp only
        have e : (2 : Int) ^ d = 2 ^ (d - 1) * 2 := by rw [← Int.pow_succ]; congr 1; omega
        omega
      · simp only [ByteArray.size_append, hs]; omega
    · right
      exact ⟨o, he k o (by omega), by omega⟩) (k, ⟨#[]⟩) ⟨h0, 64, Nat.le_refl _, by simp; omega, by show 0 + 64 ≤ 64; omega⟩
  exact ⟨r, g1, g2⟩
end Go.OM
set_option linter.unusedVariables false
set_option linter.unusedSimpArgs false
set_option maxHeartbeats 1000000
namespace Go.OM
def GIns.le (n : Nat) (a : GIns) : Prop := (a.Name.size ≤ n) ∧ (a.Args.length ≤ n)
theorem GIns.ext' (a b : GIns) : a = b ↔ a.Op = b.Op ∧ a.A = b.A ∧ a.B = b.B ∧ a.C = b.C ∧ a.Num = b.Num ∧ a.Name = b.Name ∧ a.Args = b.Args := by cases a; cases b; simp
def GCode.le (n : Nat) (a : GCode) : Prop := (a.Name.size ≤ n) ∧ (a.Locals.length ≤ n) ∧ (a.Words.length ≤ n ∧ ∀ x ∈ a.Words, GIns.le n x)
theorem GCode.ext' (a b : GCode) : a = b ↔ a.Name = b.Name ∧ a.Params = b.Params ∧ a.Locals = b.Locals ∧ a.Words = b.Words := by cases a; cases b; simp
def GBlock.le (n : Nat) (a : GBlock) : Prop := (a.Next.length ≤ n)
theorem GBlock.ext' (a b : GBlock) : a = b ↔ a.From = b.From ∧ a.To = b.To ∧ a.Next = b.Next := by cases a; cases b; simp
def GMeasure.le (n : Nat) (a : GMeasure) : Prop := True
theorem GMeasure.ext' (a b : GMeasure) : a = b ↔ a.Fns = b.Fns ∧ a.Nodes = b.Nodes ∧ a.Steps = b.Steps ∧ a.Values = b.Values ∧ a.Blocks = b.Blocks ∧ a.Lets = b.Lets ∧ a.News = b.News ∧ a.Lends = b.Lends ∧ a.Deep = b.Deep := by cases a; cases b; simp
def GNode.le (n : Nat) (a : GNode) : Prop := (a.Name.size ≤ n) ∧ (a.Kids.length ≤ n)
theorem GNode.ext' (a b : GNode) : a = b ↔ a.Kind = b.Kind ∧ a.Num = b.Num ∧ a.Name = b.Name ∧ a.Kids = b.Kids := by cases a; cases b; simp
def GParam.le (n : Nat) (a : GParam) : Prop := (a.Name.size ≤ n)
theorem GParam.ext' (a b : GParam) : a = b ↔ a.Name = b.Name ∧ a.Typ = b.Typ := by cases a; cases b; simp
def GFn.le (n : Nat) (a : GFn) : Prop := (a.Name.size ≤ n) ∧ (a.Params.length ≤ n ∧ ∀ x ∈ a.Params, GParam.le n x)
theorem GFn.ext' (a b : GFn) : a = b ↔ a.Name = b.Name ∧ a.Params = b.Params ∧ a.Res = b.Res ∧ a.Body = b.Body ∧ a.Ret = b.Ret := by cases a; cases b; simp
def GProgram.le (n : Nat) (a : GProgram) : Prop := (a.Nodes.length ≤ n ∧ ∀ x ∈ a.Nodes, GNode.le n x) ∧ (a.Fns.length ≤ n ∧ ∀ x ∈ a.Fns, GFn.le n x)
theorem GProgram.ext' (a b : GProgram) : a = b ↔ a.Nodes = b.Nodes ∧ a.Fns = b.Fns := by cases a; cases b; simp
theorem laws_toMeasure_p (a : GMeasure) (h : GMeasure.le 1048576 a) : laws_toMeasure a = some a := by
  unfold laws_toMeasure
  rfl
theorem laws_szIntS_p (a : List Int) (hw : a.length ≤ maxLen) (n : Int) (h0 : 0 ≤ n) (h1 : n ≤ 1048576) : ∃ r, laws_szIntS a n = some r ∧ r ≤ n ∧ (0 ≤ r → a.length ≤ 1048576) := by
  have hw' : a.length ≤ 9223372036854775807 := hw
  unfold laws_szIntS
  rw [w64 (by omega) (by omega)]
  split
  · exact ⟨_, rfl, by omega, fun h => by omega⟩
  · rename_i h; simp only [decide_eq_true_eq] at h; exact ⟨_, rfl, by omega, fun h => by omega⟩
theorem laws_toIntS_p (a : List Int) (h : a.length ≤ 1048576) : laws_toIntS a = some a := by
  have hl : a.length ≤ 1048576 := h
  unfold laws_toIntS
  rw [mkI_len _ _ _ (by omega) (by omega)]
  simp only [Option.bind_some]
  rw [toS_gen a _ (laws_toIntS_l1 a) (fun out k hk ho => ?_) (fun out => by simp [laws_toIntS_l1])]
  · rfl
  · simp only [laws_toIntS_l1, ofNat_lt_true hk, if_true, getI_at hk, Option.bind_some, getI_at (show k < out.length by omega), bindS_def, Int.toNat_natCast, w64_succ hk (show a.length ≤ maxLen by show _ ≤ 9223372036854775807; omega)]
theorem laws_eqIntS_p (a b : List Int) (ha : a.length ≤ 1048576) (hb : b.length ≤ 1048576) : laws_eqIntS a b = some (decide (a = b)) := by
  have hl : a.length ≤ 1048576 := ha
  unfold laws_eqIntS
  by_cases hlen : a.length = b.length
  · have hlen' : ((a.length : Int) != (b.length : Int)) = false := by simp [hlen]
    simp only [hlen', Bool.false_eq_true, if_false]
    have key := eqS_gen a b (fun x y => !(x != y)) (fun x _ y _ => by simp) hlen (laws_eqIntS_l1 a b) (fun k hk hk2 => ?_) (by simp [laws_eqIntS_l1])
    · by_cases e : a = b
      · rw [key.1 e]; simp [e]
      · rw [key.2 e]; simp [e]
    simp only [laws_eqIntS_l1, ofNat_lt_true hk, if_true, getI_at hk, getI_at hk2, Option.bind_some, w64_succ hk (show a.length ≤ maxLen by show _ ≤ 9223372036854775807; omega)]
    try (by_cases e : a[k] = b[k] <;> simp [e])
  · have hlen' : ((a.length : Int) != (b.length : Int)) = true := by simp; omega
    have hne : a ≠ b := fun e => hlen (by rw [e])
    simp [hlen', hne]
theorem laws_szIns_p (a : GIns) (hw : GIns.le maxLen a) (n : Int) (h0 : 0 ≤ n) (h1 : n ≤ 1048576) : ∃ r, laws_szIns a n = some r ∧ r ≤ n ∧ (0 ≤ r → GIns.le 1048576 a) := by
  obtain ⟨hw0, hw1⟩ := hw
  unfold laws_szIns
  have hs0 : a.Name.size ≤ 9223372036854775807 := hw0
  simp only [w64 (n := n - (a.Name.size : Int)) (by omega) (by omega)]
  by_cases hn0 : (n - (a.Name.size : Int)) < 0
  · simp only [hn0, decide_true, if_true]; exact ⟨_, rfl, by omega, fun h => by omega⟩
  simp only [hn0, decide_false, Bool.false_eq_true, if_false]
  obtain ⟨r1, q1a, q1b, q1c⟩ := laws_szIntS_p a.Args hw1 (n - (a.Name.size : Int)) (by omega) (by omega)
  simp only [q1a, Option.bind_some]
  by_cases hn1 : r1 < 0
  · simp only [hn1, decide_true, if_true]; exact ⟨_, rfl, by omega, fun h => by omega⟩
  simp only [hn1, decide_false, Bool.false_eq_true, if_false]
  exact ⟨_, rfl, by omega, fun _ => ⟨by omega, q1c (by omega)⟩⟩
theorem laws_toIns_p (a : GIns) (h : GIns.le 1048576 a) : laws_toIns a = some a := by
  obtain ⟨h0, h1⟩ := h
  unfold laws_toIns
  simp only [laws_toIntS_p a.Args h1, Option.bind_some]
theorem laws_eqIns_p (a b : GIns) (ha : GIns.le 1048576 a) (hb : GIns.le 1048576 b) : laws_eqIns a b = some (decide (a = b)) := by
  obtain ⟨ha0, ha1⟩ := ha
  obtain ⟨hb0, hb1⟩ := hb
  unfold laws_eqIns
  simp only [sEq_iff, Option.bind_some, laws_eqIntS_p a.Args b.Args ha1 hb1]
  rw [show decide (a = b) = decide (a.Op = b.Op ∧ a.A = b.A ∧ a.B = b.B ∧ a.C = b.C ∧ a.Num = b.Num ∧ a.Name = b.Name ∧ a.Args = b.Args) from by simp only [GIns.ext' a b]]

  by_cases e0 : a.Op = b.Op
  case neg => simp [e0]
  by_cases e1 : a.A = b.A
  case neg => simp [e1, e0]
  by_cases e2 : a.B = b.B
  case neg => simp [e2, e0, e1]
  by_cases e3 : a.C = b.C
  case neg => simp [e3, e0, e1, e2]
  by_cases e4 : a.Num = b.Num
  case neg => simp [e4, e0, e1, e2, e3]
  by_cases e5 : a.Name = b.Name
  case neg => simp [e5, e0, e1, e2, e3, e4]
  by_cases e6 : a.Args = b.Args
  case neg => simp [e6, e0, e1, e2, e3, e4, e5]
  simp [e0, e1, e2, e3, e4, e5, e6]
theorem laws_szInsS_p (a : List GIns) (hw : a.length ≤ maxLen ∧ ∀ x ∈ a, GIns.le maxLen x) (n : Int) (h0 : 0 ≤ n) (h1 : n ≤ 1048576) : ∃ r, laws_szInsS a n = some r ∧ r ≤ n ∧ (0 ≤ r → a.length ≤ 1048576 ∧ ∀ x ∈ a, GIns.le 1048576 x) := by
  have hw' : a.length ≤ 9223372036854775807 := hw.1
  unfold laws_szInsS
  rw [w64 (by omega) (by omega)]
  split
  · exact ⟨_, rfl, by omega, fun h => by omega⟩
  · rename_i h
    simp only [decide_eq_true_eq] at h
    have hf : ∀ (m : Int) (k : Nat) (g0 : 0 ≤ m) (g1 : m ≤ 1048576) (hk : k < a.length), ∃ r, r ≤ m ∧ (0 ≤ r → (fun x : GIns => GIns.le 1048576 x) a[k]) ∧ laws_szInsS_l1 a (m, k) = some (if r < 0 then .inr (.inr (-1)) else .inl (r, ((k + 1 : Nat) : Int))) := by
      intro m k g0 g1 hk
      obtain ⟨r, r1, r2, r3⟩ := laws_szIns_p a[k] (hw.2 _ (List.getElem_mem hk)) m g0 g1
      refine ⟨r, r2, r3, ?_⟩
      simp only [laws_szInsS_l1, ofNat_lt_true hk, if_true, getI_at hk, Option.bind_some, r1, w64_succ hk hw.1]
      by_cases hr : r < 0 <;> simp [hr]
    obtain ⟨j, hj, hj2⟩ := szS_gen _ a (laws_szInsS_l1 a) 1048576 hf (fun m => by simp [laws_szInsS_l1]) (n - a.length) (by omega) (by omega)
    rcases hj2 with rfl | ⟨m, rfl, q1, q2, q3⟩
    · exact ⟨-1, by rw [hj]; rfl, by omega, fun h => by omega⟩
    · exact ⟨m, by rw [hj]; rfl, by omega, fun _ => ⟨by omega, q3⟩⟩
theorem laws_toInsS_p (a : List GIns) (h : a.length ≤ 1048576 ∧ ∀ x ∈ a, GIns.le 1048576 x) : laws_toInsS a = some a := by
  have hl : a.length ≤ 1048576 := h.1
  unfold laws_toInsS
  rw [mkI_len _ _ _ (by omega) (by omega)]
  simp only [Option.bind_some]
  rw [toS_gen a _ (laws_toInsS_l1 a) (fun out k hk ho => ?_) (fun out => by simp [laws_toInsS_l1])]
  · rfl
  · simp only [laws_toInsS_l1, ofNat_lt_true hk, if_true, getI_at hk, Option.bind_some, laws_toIns_p a[k] (h.2 _ (List.getElem_mem hk)), getI_at (show k < out.length by omega), bindS_def, Int.toNat_natCast, w64_succ hk (show a.length ≤ maxLen by show _ ≤ 9223372036854775807; omega)]
theorem laws_eqInsS_p (a b : List GIns) (ha : a.length ≤ 1048576 ∧ ∀ x ∈ a, GIns.le 1048576 x) (hb : b.length ≤ 1048576 ∧ ∀ x ∈ b, GIns.le 1048576 x) : laws_eqInsS a b = some (decide (a = b)) := by
  have hl : a.length ≤ 1048576 := ha.1
  unfold laws_eqInsS
  by_cases hlen : a.length = b.length
  · have hlen' : ((a.length : Int) != (b.length : Int)) = false := by simp [hlen]
    simp only [hlen', Bool.false_eq_true, if_false]
    have key := eqS_gen a b (fun x y => decide (x = y)) (fun x _ y _ => by simp) hlen (laws_eqInsS_l1 a b) (fun k hk hk2 => ?_) (by simp [laws_eqInsS_l1])
    · by_cases e : a = b
      · rw [key.1 e]; simp [e]
      · rw [key.2 e]; simp [e]
    simp only [laws_eqInsS_l1, ofNat_lt_true hk, if_true, getI_at hk, getI_at hk2, Option.bind_some, laws_eqIns_p a[k] b[k] (ha.2 _ (List.getElem_mem hk)) (hb.2 _ (List.getElem_mem hk2)), w64_succ hk (show a.length ≤ maxLen by show _ ≤ 9223372036854775807; omega)]
    try (by_cases e : a[k] = b[k] <;> simp [e])
  · have hlen' : ((a.length : Int) != (b.length : Int)) = true := by simp; omega
    have hne : a ≠ b := fun e => hlen (by rw [e])
    simp [hlen', hne]
theorem laws_szCode_p (a : GCode) (hw : GCode.le maxLen a) (n : Int) (h0 : 0 ≤ n) (h1 : n ≤ 1048576) : ∃ r, laws_szCode a n = some r ∧ r ≤ n ∧ (0 ≤ r → GCode.le 1048576 a) := by
  obtain ⟨hw0, hw1, hw2⟩ := hw
  unfold laws_szCode
  have hs0 : a.Name.size ≤ 9223372036854775807 := hw0
  simp only [w64 (n := n - (a.Name.size : Int)) (by omega) (by omega)]
  by_cases hn0 : (n - (a.Name.size : Int)) < 0
  · simp only [hn0, decide_true, if_true]; exact ⟨_, rfl, by omega, fun h => by omega⟩
  simp only [hn0, decide_false, Bool.false_eq_true, if_false]
  obtain ⟨r1, q1a, q1b, q1c⟩ := laws_szIntS_p a.Locals hw1 (n - (a.Name.size : Int)) (by omega) (by omega)
  simp only [q1a, Option.bind_some]
  by_cases hn1 : r1 < 0
  · simp only [hn1, decide_true, if_true]; exact ⟨_, rfl, by omega, fun h => by omega⟩
  simp only [hn1, decide_false, Bool.false_eq_true, if_false]
  obtain ⟨r2, q2a, q2b, q2c⟩ := laws_szInsS_p a.Words hw2 r1 (by omega) (by omega)
  simp only [q2a, Option.bind_some]
  by_cases hn2 : r2 < 0
  · simp only [hn2, decide_true, if_true]; exact ⟨_, rfl, by omega, fun h => by omega⟩
  simp only [hn2, decide_false, Bool.false_eq_true, if_false]
  exact ⟨_, rfl, by omega, fun _ => ⟨by omega, q1c (by omega), q2c (by omega)⟩⟩
theorem laws_toCode_p (a : GCode) (h : GCode.le 1048576 a) : laws_toCode a = some a := by
  obtain ⟨h0, h1, h2⟩ := h
  unfold laws_toCode
  simp only [laws_toIntS_p a.Locals h1, laws_toInsS_p a.Words h2, Option.bind_some]
theorem laws_eqCode_p (a b : GCode) (ha : GCode.le 1048576 a) (hb : GCode.le 1048576 b) : laws_eqCode a b = some (decide (a = b)) := by
  obtain ⟨ha0, ha1, ha2⟩ := ha
  obtain ⟨hb0, hb1, hb2⟩ := hb
  unfold laws_eqCode
  simp only [sEq_iff, Option.bind_some, laws_eqIntS_p a.Locals b.Locals ha1 hb1, laws_eqInsS_p a.Words b.Words ha2 hb2]
  rw [show decide (a = b) = decide (a.Name = b.Name ∧ a.Params = b.Params ∧ a.Locals = b.Locals ∧ a.Words = b.Words) from by simp only [GCode.ext' a b]]
  by_cases e0 : a.Name = b.Name <;> by_cases e1 : a.Params = b.Params <;> by_cases e2 : a.Locals = b.Locals <;> by_cases e3 : a.Words = b.Words <;> simp [e0, e1, e2, e3]
theorem laws_eqBoolS_p (a b : List Bool) (ha : a.length ≤ 1048576) (hb : b.length ≤ 1048576) : laws_eqBoolS a b = some (decide (a = b)) := by
  have hl : a.length ≤ 1048576 := ha
  unfold laws_eqBoolS
  by_cases hlen : a.length = b.length
  · have hlen' : ((a.length : Int) != (b.length : Int)) = false := by simp [hlen]
    simp only [hlen', Bool.false_eq_true, if_false]
    have key := eqS_gen a b (fun x y => !(x != y)) (fun x _ y _ => by simp) hlen (laws_eqBoolS_l1 a b) (fun k hk hk2 => ?_) (by simp [laws_eqBoolS_l1])
    · by_cases e : a = b
      · rw [key.1 e]; simp [e]
      · rw [key.2 e]; simp [e]
    simp only [laws_eqBoolS_l1, ofNat_lt_true hk, if_true, getI_at hk, getI_at hk2, Option.bind_some, w64_succ hk (show a.length ≤ maxLen by show _ ≤ 9223372036854775807; omega)]
    try (by_cases e : a[k] = b[k] <;> simp [e])
  · have hlen' : ((a.length : Int) != (b.length : Int)) = true := by simp; omega
    have hne : a ≠ b := fun e => hlen (by rw [e])
    simp [hlen', hne]
theorem laws_szNode_p (a : GNode) (hw : GNode.le maxLen a) (n : Int) (h0 : 0 ≤ n) (h1 : n ≤ 1048576) : ∃ r, laws_szNode a n = some r ∧ r ≤ n ∧ (0 ≤ r → GNode.le 1048576 a) := by
  obtain ⟨hw0, hw1⟩ := hw
  unfold laws_szNode
  have hs0 : a.Name.size ≤ 9223372036854775807 := hw0
  simp only [w64 (n := n - (a.Name.size : Int)) (by omega) (by omega)]
  by_cases hn0 : (n - (a.Name.size : Int)) < 0
  · simp only [hn0, decide_true, if_true]; exact ⟨_, rfl, by omega, fun h => by omega⟩
  simp only [hn0, decide_false, Bool.false_eq_true, if_false]
  obtain ⟨r1, q1a, q1b, q1c⟩ := laws_szIntS_p a.Kids hw1 (n - (a.Name.size : Int)) (by omega) (by omega)
  simp only [q1a, Option.bind_some]
  by_cases hn1 : r1 < 0
  · simp only [hn1, decide_true, if_true]; exact ⟨_, rfl, by omega, fun h => by omega⟩
  simp only [hn1, decide_false, Bool.false_eq_true, if_false]
  exact ⟨_, rfl, by omega, fun _ => ⟨by omega, q1c (by omega)⟩⟩
theorem laws_toNode_p (a : GNode) (h : GNode.le 1048576 a) : laws_toNode a = some a := by
  obtain ⟨h0, h1⟩ := h
  unfold laws_toNode
  simp only [laws_toIntS_p a.Kids h1, Option.bind_some]
theorem laws_eqNode_p (a b : GNode) (ha : GNode.le 1048576 a) (hb : GNode.le 1048576 b) : laws_eqNode a b = some (decide (a = b)) := by
  obtain ⟨ha0, ha1⟩ := ha
  obtain ⟨hb0, hb1⟩ := hb
  unfold laws_eqNode
  simp only [sEq_iff, Option.bind_some, laws_eqIntS_p a.Kids b.Kids ha1 hb1]
  rw [show decide (a = b) = decide (a.Kind = b.Kind ∧ a.Num = b.Num ∧ a.Name = b.Name ∧ a.Kids = b.Kids) from by simp only [GNode.ext' a b]]
  by_cases e0 : a.Kind = b.Kind <;> by_cases e1 : a.Num = b.Num <;> by_cases e2 : a.Name = b.Name <;> by_cases e3 : a.Kids = b.Kids <;> simp [e0, e1, e2, e3]
theorem laws_szNodeS_p (a : List GNode) (hw : a.length ≤ maxLen ∧ ∀ x ∈ a, GNode.le maxLen x) (n : Int) (h0 : 0 ≤ n) (h1 : n ≤ 1048576) : ∃ r, laws_szNodeS a n = some r ∧ r ≤ n ∧ (0 ≤ r → a.length ≤ 1048576 ∧ ∀ x ∈ a, GNode.le 1048576 x) := by
  have hw' : a.length ≤ 9223372036854775807 := hw.1
  unfold laws_szNodeS
  rw [w64 (by omega) (by omega)]
  split
  · exact ⟨_, rfl, by omega, fun h => by omega⟩
  · rename_i h
    simp only [decide_eq_true_eq] at h
    have hf : ∀ (m : Int) (k : Nat) (g0 : 0 ≤ m) (g1 : m ≤ 1048576) (hk : k < a.length), ∃ r, r ≤ m ∧ (0 ≤ r → (fun x : GNode => GNode.le 1048576 x) a[k]) ∧ laws_szNodeS_l1 a (m, k) = some (if r < 0 then .inr (.inr (-1)) else .inl (r, ((k + 1 : Nat) : Int))) := by
      intro m k g0 g1 hk
      obtain ⟨r, r1, r2, r3⟩ := laws_szNode_p a[k] (hw.2 _ (List.getElem_mem hk)) m g0 g1
      refine ⟨r, r2, r3, ?_⟩
      simp only [laws_szNodeS_l1, ofNat_lt_true hk, if_true, getI_at hk, Option.bind_some, r1, w64_succ hk hw.1]
      by_cases hr : r < 0 <;> simp [hr]
    obtain ⟨j, hj, hj2⟩ := szS_gen _ a (laws_szNodeS_l1 a) 1048576 hf (fun m => by simp [laws_szNodeS_l1]) (n - a.length) (by omega) (by omega)
    rcases hj2 with rfl | ⟨m, rfl, q1, q2, q3⟩
    · exact ⟨-1, by rw [hj]; rfl, by omega, fun h => by omega⟩
    · exact ⟨m, by rw [hj]; rfl, by omega, fun _ => ⟨by omega, q3⟩⟩
theorem laws_toNodeS_p (a : List GNode) (h : a.length ≤ 1048576 ∧ ∀ x ∈ a, GNode.le 1048576 x) : laws_toNodeS a = some a := by
  have hl : a.length ≤ 1048576 := h.1
  unfold laws_toNodeS
  rw [mkI_len _ _ _ (by omega) (by omega)]
  simp only [Option.bind_some]
  rw [toS_gen a _ (laws_toNodeS_l1 a) (fun out k hk ho => ?_) (fun out => by simp [laws_toNodeS_l1])]
  · rfl
  · simp only [laws_toNodeS_l1, ofNat_lt_true hk, if_true, getI_at hk, Option.bind_some, laws_toNode_p a[k] (h.2 _ (List.getElem_mem hk)), getI_at (show k < out.length by omega), bindS_def, Int.toNat_natCast, w64_succ hk (show a.length ≤ maxLen by show _ ≤ 9223372036854775807; omega)]
theorem laws_eqNodeS_p (a b : List GNode) (ha : a.length ≤ 1048576 ∧ ∀ x ∈ a, GNode.le 1048576 x) (hb : b.length ≤ 1048576 ∧ ∀ x ∈ b, GNode.le 1048576 x) : laws_eqNodeS a b = some (decide (a = b)) := by
  have hl : a.length ≤ 1048576 := ha.1
  unfold laws_eqNodeS
  by_cases hlen : a.length = b.length
  · have hlen' : ((a.length : Int) != (b.length : Int)) = false := by simp [hlen]
    simp only [hlen', Bool.false_eq_true, if_false]
    have key := eqS_gen a b (fun x y => decide (x = y)) (fun x _ y _ => by simp) hlen (laws_eqNodeS_l1 a b) (fun k hk hk2 => ?_) (by simp [laws_eqNodeS_l1])
    · by_cases e : a = b
      · rw [key.1 e]; simp [e]
      · rw [key.2 e]; simp [e]
    simp only [laws_eqNodeS_l1, ofNat_lt_true hk, if_true, getI_at hk, getI_at hk2, Option.bind_some, laws_eqNode_p a[k] b[k] (ha.2 _ (List.getElem_mem hk)) (hb.2 _ (List.getElem_mem hk2)), w64_succ hk (show a.length ≤ maxLen by show _ ≤ 9223372036854775807; omega)]
    try (by_cases e : a[k] = b[k] <;> simp [e])
  · have hlen' : ((a.length : Int) != (b.length : Int)) = true := by simp; omega
    have hne : a ≠ b := fun e => hlen (by rw [e])
    simp [hlen', hne]
theorem laws_szParam_p (a : GParam) (hw : GParam.le maxLen a) (n : Int) (h0 : 0 ≤ n) (h1 : n ≤ 1048576) : ∃ r, laws_szParam a n = some r ∧ r ≤ n ∧ (0 ≤ r → GParam.le 1048576 a) := by
  have hw0 := hw; unfold GParam.le at hw0
  unfold laws_szParam
  have hs0 : a.Name.size ≤ 9223372036854775807 := hw0
  simp only [w64 (n := n - (a.Name.size : Int)) (by omega) (by omega)]
  by_cases hn0 : (n - (a.Name.size : Int)) < 0
  · simp only [hn0, decide_true, if_true]; exact ⟨_, rfl, by omega, fun h => by omega⟩
  simp only [hn0, decide_false, Bool.false_eq_true, if_false]
  exact ⟨_, rfl, by omega, fun _ => (by unfold GParam.le; first | omega | exact trivial)⟩
theorem laws_toParam_p (a : GParam) (h : GParam.le 1048576 a) : laws_toParam a = some a := by
  have h0 := h; unfold GParam.le at h0
  unfold laws_toParam
  rfl
theorem laws_eqParam_p (a b : GParam) (ha : GParam.le 1048576 a) (hb : GParam.le 1048576 b) : laws_eqParam a b = some (decide (a = b)) := by
  have ha0 := ha; have hb0 := hb; unfold GParam.le at ha0 hb0
  unfold laws_eqParam
  simp only [sEq_iff, Option.bind_some]
  rw [show decide (a = b) = decide (a.Name = b.Name ∧ a.Typ = b.Typ) from by simp only [GParam.ext' a b]]
  by_cases e0 : a.Name = b.Name <;> by_cases e1 : a.Typ = b.Typ <;> simp [e0, e1]
theorem laws_szParamS_p (a : List GParam) (hw : a.length ≤ maxLen ∧ ∀ x ∈ a, GParam.le maxLen x) (n : Int) (h0 : 0 ≤ n) (h1 : n ≤ 1048576) : ∃ r, laws_szParamS a n = some r ∧ r ≤ n ∧ (0 ≤ r → a.length ≤ 1048576 ∧ ∀ x ∈ a, GParam.le 1048576 x) := by
  have hw' : a.length ≤ 9223372036854775807 := hw.1
  unfold laws_szParamS
  rw [w64 (by omega) (by omega)]
  split
  · exact ⟨_, rfl, by omega, fun h => by omega⟩
  · rename_i h
    simp only [decide_eq_true_eq] at h
    have hf : ∀ (m : Int) (k : Nat) (g0 : 0 ≤ m) (g1 : m ≤ 1048576) (hk : k < a.length), ∃ r, r ≤ m ∧ (0 ≤ r → (fun x : GParam => GParam.le 1048576 x) a[k]) ∧ laws_szParamS_l1 a (m, k) = some (if r < 0 then .inr (.inr (-1)) else .inl (r, ((k + 1 : Nat) : Int))) := by
      intro m k g0 g1 hk
      obtain ⟨r, r1, r2, r3⟩ := laws_szParam_p a[k] (hw.2 _ (List.getElem_mem hk)) m g0 g1
      refine ⟨r, r2, r3, ?_⟩
      simp only [laws_szParamS_l1, ofNat_lt_true hk, if_true, getI_at hk, Option.bind_some, r1, w64_succ hk hw.1]
      by_cases hr : r < 0 <;> simp [hr]
    obtain ⟨j, hj, hj2⟩ := szS_gen _ a (laws_szParamS_l1 a) 1048576 hf (fun m => by simp [laws_szParamS_l1]) (n - a.length) (by omega) (by omega)
    rcases hj2 with rfl | ⟨m, rfl, q1, q2, q3⟩
    · exact ⟨-1, by rw [hj]; rfl, by omega, fun h => by omega⟩
    · exact ⟨m, by rw [hj]; rfl, by omega, fun _ => ⟨by omega, q3⟩⟩
theorem laws_toParamS_p (a : List GParam) (h : a.length ≤ 1048576 ∧ ∀ x ∈ a, GParam.le 1048576 x) : laws_toParamS a = some a := by
  have hl : a.length ≤ 1048576 := h.1
  unfold laws_toParamS
  rw [mkI_len _ _ _ (by omega) (by omega)]
  simp only [Option.bind_some]
  rw [toS_gen a _ (laws_toParamS_l1 a) (fun out k hk ho => ?_) (fun out => by simp [laws_toParamS_l1])]
  · rfl
  · simp only [laws_toParamS_l1, ofNat_lt_true hk, if_true, getI_at hk, Option.bind_some, laws_toParam_p a[k] (h.2 _ (List.getElem_mem hk)), getI_at (show k < out.length by omega), bindS_def, Int.toNat_natCast, w64_succ hk (show a.length ≤ maxLen by show _ ≤ 9223372036854775807; omega)]
theorem laws_eqParamS_p (a b : List GParam) (ha : a.length ≤ 1048576 ∧ ∀ x ∈ a, GParam.le 1048576 x) (hb : b.length ≤ 1048576 ∧ ∀ x ∈ b, GParam.le 1048576 x) : laws_eqParamS a b = some (decide (a = b)) := by
  have hl : a.length ≤ 1048576 := ha.1
  unfold laws_eqParamS
  by_cases hlen : a.length = b.length
  · have hlen' : ((a.length : Int) != (b.length : Int)) = false := by simp [hlen]
    simp only [hlen', Bool.false_eq_true, if_false]
    have key := eqS_gen a b (fun x y => decide (x = y)) (fun x _ y _ => by simp) hlen (laws_eqParamS_l1 a b) (fun k hk hk2 => ?_) (by simp [laws_eqParamS_l1])
    · by_cases e : a = b
      · rw [key.1 e]; simp [e]
      · rw [key.2 e]; simp [e]
    simp only [laws_eqParamS_l1, ofNat_lt_true hk, if_true, getI_at hk, getI_at hk2, Option.bind_some, laws_eqParam_p a[k] b[k] (ha.2 _ (List.getElem_mem hk)) (hb.2 _ (List.getElem_mem hk2)), w64_succ hk (show a.length ≤ maxLen by show _ ≤ 9223372036854775807; omega)]
    try (by_cases e : a[k] = b[k] <;> simp [e])
  · have hlen' : ((a.length : Int) != (b.length : Int)) = true := by simp; omega
    have hne : a ≠ b := fun e => hlen (by rw [e])
    simp [hlen', hne]
theorem laws_szFn_p (a : GFn) (hw : GFn.le maxLen a) (n : Int) (h0 : 0 ≤ n) (h1 : n ≤ 1048576) : ∃ r, laws_szFn a n = some r ∧ r ≤ n ∧ (0 ≤ r → GFn.le 1048576 a) := by
  obtain ⟨hw0, hw1⟩ := hw
  unfold laws_szFn
  have hs0 : a.Name.size ≤ 9223372036854775807 := hw0
  simp only [w64 (n := n - (a.Name.size : Int)) (by omega) (by omega)]
  by_cases hn0 : (n - (a.Name.size : Int)) < 0
  · simp only [hn0, decide_true, if_true]; exact ⟨_, rfl, by omega, fun h => by omega⟩
  simp only [hn0, decide_false, Bool.false_eq_true, if_false]
  obtain ⟨r1, q1a, q1b, q1c⟩ := laws_szParamS_p a.Params hw1 (n - (a.Name.size : Int)) (by omega) (by omega)
  simp only [q1a, Option.bind_some]
  by_cases hn1 : r1 < 0
  · simp only [hn1, decide_true, if_true]; exact ⟨_, rfl, by omega, fun h => by omega⟩
  simp only [hn1, decide_false, Bool.false_eq_true, if_false]
  exact ⟨_, rfl, by omega, fun _ => ⟨by omega, q1c (by omega)⟩⟩
theorem laws_toFn_p (a : GFn) (h : GFn.le 1048576 a) : laws_toFn a = some a := by
  obtain ⟨h0, h1⟩ := h
  unfold laws_toFn
  simp only [laws_toParamS_p a.Params h1, Option.bind_some]
theorem laws_eqFn_p (a b : GFn) (ha : GFn.le 1048576 a) (hb : GFn.le 1048576 b) : laws_eqFn a b = some (decide (a = b)) := by
  obtain ⟨ha0, ha1⟩ := ha
  obtain ⟨hb0, hb1⟩ := hb
  unfold laws_eqFn
  simp only [sEq_iff, Option.bind_some, laws_eqParamS_p a.Params b.Params ha1 hb1]
  rw [show decide (a = b) = decide (a.Name = b.Name ∧ a.Params = b.Params ∧ a.Res = b.Res ∧ a.Body = b.Body ∧ a.Ret = b.Ret) from by simp only [GFn.ext' a b]]
  by_cases e0 : a.Name = b.Name <;> by_cases e1 : a.Params = b.Params <;> by_cases e2 : a.Res = b.Res <;> by_cases e3 : a.Body = b.Body <;> by_cases e4 : a.Ret = b.Ret <;> simp [e0, e1, e2, e3, e4]
theorem laws_szFnS_p (a : List GFn) (hw : a.length ≤ maxLen ∧ ∀ x ∈ a, GFn.le maxLen x) (n : Int) (h0 : 0 ≤ n) (h1 : n ≤ 1048576) : ∃ r, laws_szFnS a n = some r ∧ r ≤ n ∧ (0 ≤ r → a.length ≤ 1048576 ∧ ∀ x ∈ a, GFn.le 1048576 x) := by
  have hw' : a.length ≤ 9223372036854775807 := hw.1
  unfold laws_szFnS
  rw [w64 (by omega) (by omega)]
  split
  · exact ⟨_, rfl, by omega, fun h => by omega⟩
  · rename_i h
    simp only [decide_eq_true_eq] at h
    have hf : ∀ (m : Int) (k : Nat) (g0 : 0 ≤ m) (g1 : m ≤ 1048576) (hk : k < a.length), ∃ r, r ≤ m ∧ (0 ≤ r → (fun x : GFn => GFn.le 1048576 x) a[k]) ∧ laws_szFnS_l1 a (m, k) = some (if r < 0 then .inr (.inr (-1)) else .inl (r, ((k + 1 : Nat) : Int))) := by
      intro m k g0 g1 hk
      obtain ⟨r, r1, r2, r3⟩ := laws_szFn_p a[k] (hw.2 _ (List.getElem_mem hk)) m g0 g1
      refine ⟨r, r2, r3, ?_⟩
      simp only [laws_szFnS_l1, ofNat_lt_true hk, if_true, getI_at hk, Option.bind_some, r1, w64_succ hk hw.1]
      by_cases hr : r < 0 <;> simp [hr]
    obtain ⟨j, hj, hj2⟩ := szS_gen _ a (laws_szFnS_l1 a) 1048576 hf (fun m => by simp [laws_szFnS_l1]) (n - a.length) (by omega) (by omega)
    rcases hj2 with rfl | ⟨m, rfl, q1, q2, q3⟩
    · exact ⟨-1, by rw [hj]; rfl, by omega, fun h => by omega⟩
    · exact ⟨m, by rw [hj]; rfl, by omega, fun _ => ⟨by omega, q3⟩⟩
theorem laws_toFnS_p (a : List GFn) (h : a.length ≤ 1048576 ∧ ∀ x ∈ a, GFn.le 1048576 x) : laws_toFnS a = some a := by
  have hl : a.length ≤ 1048576 := h.1
  unfold laws_toFnS
  rw [mkI_len _ _ _ (by omega) (by omega)]
  simp only [Option.bind_some]
  rw [toS_gen a _ (laws_toFnS_l1 a) (fun out k hk ho => ?_) (fun out => by simp [laws_toFnS_l1])]
  · rfl
  · simp only [laws_toFnS_l1, ofNat_lt_true hk, if_true, getI_at hk, Option.bind_some, laws_toFn_p a[k] (h.2 _ (List.getElem_mem hk)), getI_at (show k < out.length by omega), bindS_def, Int.toNat_natCast, w64_succ hk (show a.length ≤ maxLen by show _ ≤ 9223372036854775807; omega)]
theorem laws_eqFnS_p (a b : List GFn) (ha : a.length ≤ 1048576 ∧ ∀ x ∈ a, GFn.le 1048576 x) (hb : b.length ≤ 1048576 ∧ ∀ x ∈ b, GFn.le 1048576 x) : laws_eqFnS a b = some (decide (a = b)) := by
  have hl : a.length ≤ 1048576 := ha.1
  unfold laws_eqFnS
  by_cases hlen : a.length = b.length
  · have hlen' : ((a.length : Int) != (b.length : Int)) = false := by simp [hlen]
    simp only [hlen', Bool.false_eq_true, if_false]
    have key := eqS_gen a b (fun x y => decide (x = y)) (fun x _ y _ => by simp) hlen (laws_eqFnS_l1 a b) (fun k hk hk2 => ?_) (by simp [laws_eqFnS_l1])
    · by_cases e : a = b
      · rw [key.1 e]; simp [e]
      · rw [key.2 e]; simp [e]
    simp only [laws_eqFnS_l1, ofNat_lt_true hk, if_true, getI_at hk, getI_at hk2, Option.bind_some, laws_eqFn_p a[k] b[k] (ha.2 _ (List.getElem_mem hk)) (hb.2 _ (List.getElem_mem hk2)), w64_succ hk (show a.length ≤ maxLen by show _ ≤ 9223372036854775807; omega)]
    try (by_cases e : a[k] = b[k] <;> simp [e])
  · have hlen' : ((a.length : Int) != (b.length : Int)) = true := by simp; omega
    have hne : a ≠ b := fun e => hlen (by rw [e])
    simp [hlen', hne]
theorem laws_szProgram_p (a : GProgram) (hw : GProgram.le maxLen a) (n : Int) (h0 : 0 ≤ n) (h1 : n ≤ 1048576) : ∃ r, laws_szProgram a n = some r ∧ r ≤ n ∧ (0 ≤ r → GProgram.le 1048576 a) := by
  obtain ⟨hw0, hw1⟩ := hw
  unfold laws_szProgram
  obtain ⟨r0, q0a, q0b, q0c⟩ := laws_szNodeS_p a.Nodes hw0 n (by omega) (by omega)
  simp only [q0a, Option.bind_some]
  by_cases hn0 : r0 < 0
  · simp only [hn0, decide_true, if_true]; exact ⟨_, rfl, by omega, fun h => by omega⟩
  simp only [hn0, decide_false, Bool.false_eq_true, if_false]
  obtain ⟨r1, q1a, q1b, q1c⟩ := laws_szFnS_p a.Fns hw1 r0 (by omega) (by omega)
  simp only [q1a, Option.bind_some]
  by_cases hn1 : r1 < 0
  · simp only [hn1, decide_true, if_true]; exact ⟨_, rfl, by omega, fun h => by omega⟩
  simp only [hn1, decide_false, Bool.false_eq_true, if_false]
  exact ⟨_, rfl, by omega, fun _ => ⟨q0c (by omega), q1c (by omega)⟩⟩
theorem laws_toProgram_p (a : GProgram) (h : GProgram.le 1048576 a) : laws_toProgram a = some a := by
  obtain ⟨h0, h1⟩ := h
  unfold laws_toProgram
  simp only [laws_toNodeS_p a.Nodes h0, laws_toFnS_p a.Fns h1, Option.bind_some]
theorem laws_eqProgram_p (a b : GProgram) (ha : GProgram.le 1048576 a) (hb : GProgram.le 1048576 b) : laws_eqProgram a b = some (decide (a = b)) := by
  obtain ⟨ha0, ha1⟩ := ha
  obtain ⟨hb0, hb1⟩ := hb
  unfold laws_eqProgram
  simp only [sEq_iff, Option.bind_some, laws_eqNodeS_p a.Nodes b.Nodes ha0 hb0, laws_eqFnS_p a.Fns b.Fns ha1 hb1]
  rw [show decide (a = b) = decide (a.Nodes = b.Nodes ∧ a.Fns = b.Fns) from by simp only [GProgram.ext' a b]]
  by_cases e0 : a.Nodes = b.Nodes <;> by_cases e1 : a.Fns = b.Fns <;> simp [e0, e1]
theorem laws_eqBlock_p (a b : GBlock) (ha : GBlock.le 1048576 a) (hb : GBlock.le 1048576 b) : laws_eqBlock a b = some (decide (a = b)) := by
  have ha0 := ha; have hb0 := hb; unfold GBlock.le at ha0 hb0
  unfold laws_eqBlock
  simp only [sEq_iff, Option.bind_some, laws_eqIntS_p a.Next b.Next ha0 hb0]
  rw [show decide (a = b) = decide (a.From = b.From ∧ a.To = b.To ∧ a.Next = b.Next) from by simp only [GBlock.ext' a b]]
  by_cases e0 : a.From = b.From <;> by_cases e1 : a.To = b.To <;> by_cases e2 : a.Next = b.Next <;> simp [e0, e1, e2]
theorem laws_eqBlockS_p (a b : List GBlock) (ha : a.length ≤ 1048576 ∧ ∀ x ∈ a, GBlock.le 1048576 x) (hb : b.length ≤ 1048576 ∧ ∀ x ∈ b, GBlock.le 1048576 x) : laws_eqBlockS a b = some (decide (a = b)) := by
  have hl : a.length ≤ 1048576 := ha.1
  unfold laws_eqBlockS
  by_cases hlen : a.length = b.length
  · have hlen' : ((a.length : Int) != (b.length : Int)) = false := by simp [hlen]
    simp only [hlen', Bool.false_eq_true, if_false]
    have key := eqS_gen a b (fun x y => decide (x = y)) (fun x _ y _ => by simp) hlen (laws_eqBlockS_l1 a b) (fun k hk hk2 => ?_) (by simp [laws_eqBlockS_l1])
    · by_cases e : a = b
      · rw [key.1 e]; simp [e]
      · rw [key.2 e]; simp [e]
    simp only [laws_eqBlockS_l1, ofNat_lt_true hk, if_true, getI_at hk, getI_at hk2, Option.bind_some, laws_eqBlock_p a[k] b[k] (ha.2 _ (List.getElem_mem hk)) (hb.2 _ (List.getElem_mem hk2)), w64_succ hk (show a.length ≤ maxLen by show _ ≤ 9223372036854775807; omega)]
    try (by_cases e : a[k] = b[k] <;> simp [e])
  · have hlen' : ((a.length : Int) != (b.length : Int)) = true := by simp; omega
    have hne : a ≠ b := fun e => hlen (by rw [e])
    simp [hlen', hne]
theorem laws_eqBoolSS_p (a b : List (List Bool)) (ha : a.length ≤ 1048576 ∧ ∀ x ∈ a, x.length ≤ 1048576) (hb : b.length ≤ 1048576 ∧ ∀ x ∈ b, x.length ≤ 1048576) : laws_eqBoolSS a b = some (decide (a = b)) := by
  have hl : a.length ≤ 1048576 := ha.1
  unfold laws_eqBoolSS
  by_cases hlen : a.length = b.length
  · have hlen' : ((a.length : Int) != (b.length : Int)) = false := by simp [hlen]
    simp only [hlen', Bool.false_eq_true, if_false]
    have key := eqS_gen a b (fun x y => decide (x = y)) (fun x _ y _ => by simp) hlen (laws_eqBoolSS_l1 a b) (fun k hk hk2 => ?_) (by simp [laws_eqBoolSS_l1])
    · by_cases e : a = b
      · rw [key.1 e]; simp [e]
      · rw [key.2 e]; simp [e]
    simp only [laws_eqBoolSS_l1, ofNat_lt_true hk, if_true, getI_at hk, getI_at hk2, Option.bind_some, laws_eqBoolS_p a[k] b[k] (ha.2 _ (List.getElem_mem hk)) (hb.2 _ (List.getElem_mem hk2)), w64_succ hk (show a.length ≤ maxLen by show _ ≤ 9223372036854775807; omega)]
    try (by_cases e : a[k] = b[k] <;> simp [e])
  · have hlen' : ((a.length : Int) != (b.length : Int)) = true := by simp; omega
    have hne : a ≠ b := fun e => hlen (by rw [e])
    simp [hlen', hne]
theorem laws_markText_p (k : Int) (h0 : 0 ≤ k) (h1 : k ≤ 9223372036854775807) : ∃ z, laws_markText k = some z := by
  unfold laws_markText
  by_cases hk : k ≤ 0
  · simp [hk]
  · simp only [hk, decide_false, Bool.false_eq_true, if_false]
    obtain ⟨z, h2, h3⟩ := text_loop laws_markText_l1 (fun k o hk => ⟨IntKind.wrap .u8 (IntKind.wrap .i64 (48 + (Int.tmod k 10))), by simp only [laws_markText_l1, gt_iff_lt, hk, decide_true, if_true]⟩) (fun k o hk => by simp only [laws_markText_l1, gt_iff_lt, show ¬ 0 < k by omega, decide_false, Bool.false_eq_true, if_false]) k h0 h1
    rw [h2]
    have hs : (⟨#[109]⟩ : ByteArray).size = 1 := rfl
    simp only [Option.bind_some]
    rw [sCat_ok' (by rw [hs]; omega)]
    exact ⟨_, rfl⟩
theorem laws_markIntS_p (a : List Int) (ha : a.length ≤ 1048576) (k : Int) (h0 : 0 ≤ k) (h1 : k + 1048576 ≤ 4611686018427387904) : ∃ k' a', laws_markIntS a k = some (k', a') ∧ k ≤ k' ∧ k' ≤ k + 1048576 ∧ laws_heldIntS a' k = some k' := by
  have hlen : a.length ≤ 1048576 := ha
  have hM : ∃ k' a', loopP laws_markIntS_l1 (a, k, 0) = some (a', k') ∧ k ≤ k' ∧ k' ≤ k + 1 * 1048576 ∧ a'.length = a.length ∧ ∃ ks : Nat → Int, ks 0 = k ∧ ks a.length = k' ∧ ∀ (j : Nat) (hj : j < a'.length), (fun (x : Int) (k k' : Int) => x = k ∧ k' = (k + 1)) a'[j] (ks j) (ks (j + 1)) ∧ 0 ≤ ks j ∧ ks j ≤ ks (j + 1) ∧ ks j ≤ 4611686018427387904 := by
    refine markS_gen (fun x : Int => True) (fun (x : Int) (k k' : Int) => x = k ∧ k' = (k + 1)) 1 4611686018427387904 laws_markIntS_l1 (fun out k i hi hlen h0 h1 hok => ?_) (fun out k => by simp [laws_markIntS_l1]) a hlen (fun x hx => trivial) k h0 (by omega)
    refine ⟨(k + 1), k, by omega, by omega, ?_, ?_⟩
    · simp []
    · simp (disch := omega) only [laws_markIntS_l1, ofNat_lt_true hi, if_true, getI_at, getI_set, Option.bind_some, bindS_def, Int.toNat_natCast, List.length_set, List.set_set, w64, Int.natCast_add, Int.natCast_one]
  obtain ⟨k', a', h2, h3, h4, h5, ks, e0, e1, h6⟩ := hM
  refine ⟨k', a', by unfold laws_markIntS; rw [h2]; rfl, h3, by omega, ?_⟩
  have hg : loopP (laws_heldIntS_l1 a') (ks 0, 0) = some (.inl (ks a'.length)) := by
    refine heldS_gen a' (fun (x : Int) (k k' : Int) => x = k ∧ k' = (k + 1)) 4611686018427387904 ks (laws_heldIntS_l1 a') h6 (fun j hj k k' hm h0 hk h1 => ?_) (fun k => by simp [laws_heldIntS_l1])
    have hjl : a'.length ≤ 1048576 := by omega
    obtain ⟨y0, yk⟩ := hm
    subst yk
    have hw1 : IntKind.wrap .i64 ((j : Int) + 1) = (j : Int) + 1 := w64 (by omega) (by omega)
    simp only [laws_heldIntS_l1, ofNat_lt_true hj, getI_at hj, hw1, if_true, Option.bind_some]
    simp (disch := omega) [w64, sEq_iff, y0]
  unfold laws_heldIntS
  rw [e0, h5, e1] at hg
  rw [hg]
  rfl
theorem laws_markInsS_p (a : List GIns) (ha : a.length ≤ 1048576 ∧ ∀ x ∈ a, GIns.le 1048576 x) (k : Int) (h0 : 0 ≤ k) (h1 : k + 1099517919232 ≤ 4611686018427387904) : ∃ k' a', laws_markInsS a k = some (k', a') ∧ k ≤ k' ∧ k' ≤ k + 1099517919232 := by
  have hlen : a.length ≤ 1048576 := ha.1
  have hM : ∃ k' a', loopP laws_markInsS_l1 (a, k, 0) = some (a', k') ∧ k ≤ k' ∧ k' ≤ k + 1048582 * 1048576 ∧ a'.length = a.length ∧ ∃ ks : Nat → Int, ks 0 = k ∧ ks a.length = k' ∧ ∀ (j : Nat) (hj : j < a'.length), (fun (x : GIns) (k k' : Int) => True) a'[j] (ks j) (ks (j + 1)) ∧ 0 ≤ ks j ∧ ks j ≤ ks (j + 1) ∧ ks j ≤ 4611686018427387904 := by
    refine markS_gen (fun x : GIns => GIns.le 1048576 x) (fun (x : GIns) (k k' : Int) => True) 1048582 4611686018427387904 laws_markInsS_l1 (fun out k i hi hlen h0 h1 hok => ?_) (fun out k => by simp [laws_markInsS_l1]) a hlen (fun x hx => ha.2 x hx) k h0 (by omega)
    obtain ⟨hok_Name, hok_Args⟩ := hok
    obtain ⟨z5, hz5⟩ := laws_markText_p (((((k + 1) + 1) + 1) + 1) + 1) (by omega) (by omega)
    obtain ⟨q6, b6, mm6, l6, u6, hh6⟩ := laws_markIntS_p out[i].Args hok_Args ((((((k + 1) + 1) + 1) + 1) + 1) + 1) (by omega) (by omega)
    refine ⟨q6, (⟨k, (k + 1), ((k + 1) + 1), (((k + 1) + 1) + 1), ((((k + 1) + 1) + 1) + 1), z5, b6⟩ : GIns), by omega, by omega, trivial, ?_⟩
    · simp (disch := omega) only [laws_markInsS_l1, ofNat_lt_true hi, if_true, getI_at, getI_set, Option.bind_some, bindS_def, Int.toNat_natCast, List.length_set, List.set_set, w64, hz5, mm6, Int.natCast_add, Int.natCast_one]
  obtain ⟨k', a', h2, h3, h4, h5, ks, e0, e1, h6⟩ := hM
  refine ⟨k', a', by unfold laws_markInsS; rw [h2]; rfl, h3, by omega⟩
theorem laws_markCode_p (a : GCode) (ha : GCode.le 1048576 a) (k : Int) (h0 : 0 ≤ k) (h1 : k + 1099518967810 ≤ 4611686018427387904) : ∃ k' a', laws_markCode a k = some (k', a') ∧ k ≤ k' ∧ k' ≤ k + 1099518967810 := by
  obtain ⟨ha_Name, ha_Locals, ha_Words⟩ := ha
  obtain ⟨k0, b0, m0, l0, u0, e0⟩ := laws_markIntS_p a.Locals ha_Locals k (by omega) (by omega)
  obtain ⟨k1, b1, m1, l1, u1⟩ := laws_markInsS_p a.Words ha_Words k0 (by omega) (by omega)
  refine ⟨k1, ⟨a.Name, a.Params, b0, b1⟩, ?_, by omega, by omega⟩
  · unfold laws_markCode; simp [m0, m1]
theorem laws_markBoolS_p (a : List Bool) (ha : a.length ≤ 1048576) (k : Int) (h0 : 0 ≤ k) (h1 : k + 1048576 ≤ 4611686018427387904) : ∃ k' a', laws_markBoolS a k = some (k', a') ∧ k ≤ k' ∧ k' ≤ k + 1048576 ∧ laws_heldBoolS a' k = some k' := by
  have hlen : a.length ≤ 1048576 := ha
  have hM : ∃ k' a', loopP laws_markBoolS_l1 (a, k, 0) = some (a', k') ∧ k ≤ k' ∧ k' ≤ k + 1 * 1048576 ∧ a'.length = a.length ∧ ∃ ks : Nat → Int, ks 0 = k ∧ ks a.length = k' ∧ ∀ (j : Nat) (hj : j < a'.length), (fun (x : Bool) (k k' : Int) => x = ((Int.tmod k 3) == 0) ∧ k' = (k + 1)) a'[j] (ks j) (ks (j + 1)) ∧ 0 ≤ ks j ∧ ks j ≤ ks (j + 1) ∧ ks j ≤ 4611686018427387904 := by
    refine markS_gen (fun x : Bool => True) (fun (x : Bool) (k k' : Int) => x = ((Int.tmod k 3) == 0) ∧ k' = (k + 1)) 1 4611686018427387904 laws_markBoolS_l1 (fun out k i hi hlen h0 h1 hok => ?_) (fun out k => by simp [laws_markBoolS_l1]) a hlen (fun x hx => trivial) k h0 (by omega)
    refine ⟨(k + 1), ((Int.tmod k 3) == 0), by omega, by omega, ?_, ?_⟩
    · simp []
    · simp (disch := omega) only [laws_markBoolS_l1, ofNat_lt_true hi, if_true, getI_at, getI_set, Option.bind_some, bindS_def, Int.toNat_natCast, List.length_set, List.set_set, w64, Int.natCast_add, Int.natCast_one]
  obtain ⟨k', a', h2, h3, h4, h5, ks, e0, e1, h6⟩ := hM
  refine ⟨k', a', by unfold laws_markBoolS; rw [h2]; rfl, h3, by omega, ?_⟩
  have hg : loopP (laws_heldBoolS_l1 a') (ks 0, 0) = some (.inl (ks a'.length)) := by
    refine heldS_gen a' (fun (x : Bool) (k k' : Int) => x = ((Int.tmod k 3) == 0) ∧ k' = (k + 1)) 4611686018427387904 ks (laws_heldBoolS_l1 a') h6 (fun j hj k k' hm h0 hk h1 => ?_) (fun k => by simp [laws_heldBoolS_l1])
    have hjl : a'.length ≤ 1048576 := by omega
    obtain ⟨y0, yk⟩ := hm
    subst yk
    have hw1 : IntKind.wrap .i64 ((j : Int) + 1) = (j : Int) + 1 := w64 (by omega) (by omega)
    simp only [laws_heldBoolS_l1, ofNat_lt_true hj, getI_at hj, hw1, if_true, Option.bind_some]
    simp (disch := omega) [w64, sEq_iff, y0]
  unfold laws_heldBoolS
  rw [e0, h5, e1] at hg
  rw [hg]
  rfl
theorem laws_markBlockS_p (a : List GBlock) (ha : a.length ≤ 1048576 ∧ ∀ x ∈ a, GBlock.le 1048576 x) (k : Int) (h0 : 0 ≤ k) (h1 : k + 1099513724928 ≤ 4611686018427387904) : ∃ k' a', laws_markBlockS a k = some (k', a') ∧ k ≤ k' ∧ k' ≤ k + 1099513724928 ∧ laws_heldBlockS a' k = some k' := by
  have hlen : a.length ≤ 1048576 := ha.1
  have hM : ∃ k' a', loopP laws_markBlockS_l1 (a, k, 0) = some (a', k') ∧ k ≤ k' ∧ k' ≤ k + 1048578 * 1048576 ∧ a'.length = a.length ∧ ∃ ks : Nat → Int, ks 0 = k ∧ ks a.length = k' ∧ ∀ (j : Nat) (hj : j < a'.length), (fun (x : GBlock) (k k' : Int) => x.From = k ∧ x.To = (k + 1) ∧ ∃ q2, laws_heldIntS x.Next ((k + 1) + 1) = some q2 ∧ ((k + 1) + 1) ≤ q2 ∧ k' = q2) a'[j] (ks j) (ks (j + 1)) ∧ 0 ≤ ks j ∧ ks j ≤ ks (j + 1) ∧ ks j ≤ 4611686018427387904 := by
    refine markS_gen (fun x : GBlock => GBlock.le 1048576 x) (fun (x : GBlock) (k k' : Int) => x.From = k ∧ x.To = (k + 1) ∧ ∃ q2, laws_heldIntS x.Next ((k + 1) + 1) = some q2 ∧ ((k + 1) + 1) ≤ q2 ∧ k' = q2) 1048578 4611686018427387904 laws_markBlockS_l1 (fun out k i hi hlen h0 h1 hok => ?_) (fun out k => by simp [laws_markBlockS_l1]) a hlen (fun x hx => ha.2 x hx) k h0 (by omega)
    have hok_Next := hok; simp only [GBlock.le] at hok_Next
    obtain ⟨q2, b2, mm2, l2, u2, hh2⟩ := laws_markIntS_p out[i].Next hok_Next ((k + 1) + 1) (by omega) (by omega)
    refine ⟨q2, (⟨k, (k + 1), b2⟩ : GBlock), by omega, by omega, ?_, ?_⟩
    · simp [hh2]; try omega
    · simp (disch := omega) only [laws_markBlockS_l1, ofNat_lt_true hi, if_true, getI_at, getI_set, Option.bind_some, bindS_def, Int.toNat_natCast, List.length_set, List.set_set, w64, mm2, Int.natCast_add, Int.natCast_one]
  obtain ⟨k', a', h2, h3, h4, h5, ks, e0, e1, h6⟩ := hM
  refine ⟨k', a', by unfold laws_markBlockS; rw [h2]; rfl, h3, by omega, ?_⟩
  have hg : loopP (laws_heldBlockS_l1 a') (ks 0, 0) = some (.inl (ks a'.length)) := by
    refine heldS_gen a' (fun (x : GBlock) (k k' : Int) => x.From = k ∧ x.To = (k + 1) ∧ ∃ q2, laws_heldIntS x.Next ((k + 1) + 1) = some q2 ∧ ((k + 1) + 1) ≤ q2 ∧ k' = q2) 4611686018427387904 ks (laws_heldBlockS_l1 a') h6 (fun j hj k k' hm h0 hk h1 => ?_) (fun k => by simp [laws_heldBlockS_l1])
    have hjl : a'.length ≤ 1048576 := by omega
    obtain ⟨y0, ⟨y1, ⟨q2, y2, yy2, yk⟩⟩⟩ := hm
    subst yk
    have hw1 : IntKind.wrap .i64 ((j : Int) + 1) = (j : Int) + 1 := w64 (by omega) (by omega)
    simp only [laws_heldBlockS_l1, ofNat_lt_true hj, getI_at hj, hw1, if_true, Option.bind_some]
    simp (disch := omega) [w64, sEq_iff, y0, y1, y2, show ¬ k' < 0 by omega, show 0 ≤ k' by omega]
  unfold laws_heldBlockS
  rw [e0, h5, e1] at hg
  rw [hg]
  rfl
theorem laws_markBoolSS_p (a : List (List Bool)) (ha : a.length ≤ 1048576 ∧ ∀ x ∈ a, x.length ≤ 1048576) (k : Int) (h0 : 0 ≤ k) (h1 : k + 1099511627776 ≤ 4611686018427387904) : ∃ k' a', laws_markBoolSS a k = some (k', a') ∧ k ≤ k' ∧ k' ≤ k + 1099511627776 ∧ laws_heldBoolSS a' k = some k' := by
  have hlen : a.length ≤ 1048576 := ha.1
  have hM : ∃ k' a', loopP laws_markBoolSS_l1 (a, k, 0) = some (a', k') ∧ k ≤ k' ∧ k' ≤ k + 1048576 * 1048576 ∧ a'.length = a.length ∧ ∃ ks : Nat → Int, ks 0 = k ∧ ks a.length = k' ∧ ∀ (j : Nat) (hj : j < a'.length), (fun (x : List Bool) (k k' : Int) => ∃ q0, laws_heldBoolS x k = some q0 ∧ k ≤ q0 ∧ k' = q0) a'[j] (ks j) (ks (j + 1)) ∧ 0 ≤ ks j ∧ ks j ≤ ks (j + 1) ∧ ks j ≤ 4611686018427387904 := by
    refine markS_gen (fun x : List Bool => x.length ≤ 1048576) (fun (x : List Bool) (k k' : Int) => ∃ q0, laws_heldBoolS x k = some q0 ∧ k ≤ q0 ∧ k' = q0) 1048576 4611686018427387904 laws_markBoolSS_l1 (fun out k i hi hlen h0 h1 hok => ?_) (fun out k => by simp [laws_markBoolSS_l1]) a hlen (fun x hx => ha.2 x hx) k h0 (by omega)
    obtain ⟨q0, b0, mm0, l0, u0, hh0⟩ := laws_markBoolS_p out[i] hok k (by omega) (by omega)
    refine ⟨q0, b0, by omega, by omega, ?_, ?_⟩
    · simp [hh0]; try omega
    · simp (disch := omega) only [laws_markBoolSS_l1, ofNat_lt_true hi, if_true, getI_at, getI_set, Option.bind_some, bindS_def, Int.toNat_natCast, List.length_set, List.set_set, w64, mm0, Int.natCast_add, Int.natCast_one]
  obtain ⟨k', a', h2, h3, h4, h5, ks, e0, e1, h6⟩ := hM
  refine ⟨k', a', by unfold laws_markBoolSS; rw [h2]; rfl, h3, by omega, ?_⟩
  have hg : loopP (laws_heldBoolSS_l1 a') (ks 0, 0) = some (.inl (ks a'.length)) := by
    refine heldS_gen a' (fun (x : List Bool) (k k' : Int) => ∃ q0, laws_heldBoolS x k = some q0 ∧ k ≤ q0 ∧ k' = q0) 4611686018427387904 ks (laws_heldBoolSS_l1 a') h6 (fun j hj k k' hm h0 hk h1 => ?_) (fun k => by simp [laws_heldBoolSS_l1])
    have hjl : a'.length ≤ 1048576 := by omega
    obtain ⟨q0, y0, yy0, yk⟩ := hm
    subst yk
    have hw1 : IntKind.wrap .i64 ((j : Int) + 1) = (j : Int) + 1 := w64 (by omega) (by omega)
    simp only [laws_heldBoolSS_l1, ofNat_lt_true hj, getI_at hj, hw1, if_true, Option.bind_some]
    simp (disch := omega) [w64, sEq_iff, y0, show ¬ k' < 0 by omega, show 0 ≤ k' by omega]
  unfold laws_heldBoolSS
  rw [e0, h5, e1] at hg
  rw [hg]
  rfl
end Go.OM
set_option linter.unusedVariables false
set_option linter.unusedSimpArgs false
namespace Go.OM
/-! ### Numbers in bounds, names, words, codes -/
theorem ite_some {α : Type} {c : Prop} [Decidable c] (a b : α) : (if c then some a else some b) = some (if c then a else b) := by split <;> rfl
theorem ite_bool (c : Prop) [Decidable c] (b : Bool) : (if c then true else b) = (decide c || b) := by by_cases h : c <;> simp [h]
theorem ite_bool2 (c : Prop) [Decidable c] (b : Bool) : (if c then b else false) = (decide c && b) := by by_cases h : c <;> simp [h]
def inB (x a b : Int) : Bool := decide (a ≤ x) && decide (x ≤ b)
theorem inB_iff {x a b : Int} : inB x a b = true ↔ a ≤ x ∧ x ≤ b := by simp [inB]
theorem inB_false {x a b : Int} : inB x a b = false ↔ ¬ (a ≤ x ∧ x ≤ b) := by rw [← inB_iff]; simp
theorem impl_in_eq (x a b : Int) : impl_in x a b = some (inB x a b) := by
  unfold impl_in inB
  by_cases h : a ≤ x <;> simp [h]
theorem spec_in_eq (x a b : Int) : spec_l01In x a b = some (inB x a b) := by
  unfold spec_l01In inB
  by_cases h : a ≤ x <;> simp [h]
def bI (z : ByteArray) : List Int := z.data.toList.map fun x => ((x.toNat : Nat) : Int)
theorem bI_length (z : ByteArray) : (bI z).length = z.size := by rw [bI, List.length_map]; exact Array.length_toList
theorem sAt_bI {z : ByteArray} {k : Nat} (h : k < (bI z).length) : sAt z k = some (bI z)[k] := by
  have h1 : k < z.size := by rw [← bI_length]; exact h
  unfold sAt
  rw [if_pos ⟨by omega, by omega⟩]
  simp only [byteAt, Int.toNat_natCast, bI]
  have e : z.data.toList.length = z.size := Array.length_toList
  have h2 : k < z.data.toList.length := by omega
  rw [List.getD_eq_getElem?_getD, List.getElem?_eq_getElem h2]
  simp only [Option.getD_some, List.getElem_map]
theorem sEq_comm' (x y : ByteArray) : sEq x y = sEq y x := by rw [sEq_iff, sEq_iff]; exact decide_eq_decide.2 eq_comm
/-! names -/
def letterB (b : Int) : Bool := inB b 97 122
def figureB (b : Int) : Bool := inB b 48 57
theorem impl_isLetter_eq (b : Int) : impl_isLetter b = some (letterB b) := by
  unfold impl_isLetter letterB inB
  by_cases h : 97 ≤ b <;> simp [h]
theorem impl_isFigure_eq (b : Int) : impl_isFigure b = some (figureB b) := by
  unfold impl_isFigure figureB inB
  by_cases h : 48 ≤ b <;> simp [h]
theorem spec_l03Letter_eq (b : Int) : spec_l03Letter b = some (letterB b) := by
  unfold spec_l03Letter letterB inB
  by_cases h : 97 ≤ b <;> simp [h]
theorem spec_l03Figure_eq (b : Int) : spec_l03Figure b = some (figureB b) := by
  unfold spec_l03Figure figureB inB
  by_cases h : 48 ≤ b <;> simp [h]
def keys : List ByteArray := [⟨#[102, 110]⟩, ⟨#[108, 101, 116]⟩, ⟨#[105, 102]⟩, ⟨#[101, 108, 115, 101]⟩, ⟨#[119, 104, 105, 108, 101]⟩, ⟨#[112, 114, 105, 110, 116]⟩, ⟨#[100, 111]⟩, ⟨#[110, 101, 119]⟩, ⟨#[99, 108, 111, 110, 101]⟩, ⟨#[109, 117, 116]⟩, ⟨#[105, 110, 112, 117, 116]⟩, ⟨#[105, 110, 116]⟩, ⟨#[98, 111, 120]⟩, ⟨#[114, 101, 116]⟩]
def keyB (s : ByteArray) : Bool := keys.any fun w => sEq w s
theorem keys_split : strings_Split (⟨#[102, 110, 32, 108, 101, 116, 32, 105, 102, 32, 101, 108, 115, 101, 32, 119, 104, 105, 108, 101, 32, 112, 114, 105, 110, 116, 32, 100, 111, 32, 110, 101, 119, 32, 99, 108, 111, 110, 101, 32, 109, 117, 116, 32, 105, 110, 112, 117, 116, 32, 105, 110, 116, 32, 98, 111, 120, 32, 114, 101, 116]⟩ : ByteArray) (⟨#[32]⟩ : ByteArray) = some keys := by kernel_rfl
theorem any_loop (l : List ByteArray) (s : ByteArray) (hl : l.length ≤ 1048576) (f : Int → Option (Int ⊕ (Unit ⊕ Bool)))
    (hf : ∀ i, f i = if (decide (i < (l.length : Int))) = true then (getI l i).bind fun e => if (sEq e s) = true then some (Sum.inr (Sum.inr true)) else some (Sum.inl (IntKind.wrap .i64 (i + 1))) else some (Sum.inr (Sum.inl ()))) :
    loopP f 0 = some (if (l.any fun w => sEq w s) = true then .inr true else .inl ()) := by
  refine loopP_any l (fun w => sEq w s) f (fun k hk => ?_) (by rw [hf]; simp)
  rw [hf]
  simp only [ofNat_lt_true hk, if_true, getI_at hk, Option.bind_some, w64_succ hk (show l.length ≤ maxLen by show _ ≤ 9223372036854775807; omega), ite_some]
theorem spec_KeyWord_eq (s : ByteArray) : spec_KeyWord s = some (keyB s) := by
  unfold spec_KeyWord spec_l03Keys
  simp only [Option.bind_some]
  have h := any_loop keys s (by decide) (spec_KeyWord_l1 s keys) (fun i => by simp only [spec_KeyWord_l1])
  unfold keys at h
  rw [h]
  unfold keyB keys
  simp only [Option.bind_some]
  split <;> rename_i h2 <;> split at h2 <;> simp_all
theorem impl_KeyWord_eq (s : ByteArray) : impl_KeyWord s = some (keyB s) := by
  unfold impl_KeyWord impl_oneOf
  rw [keys_split]
  simp only [Option.bind_some]
  rw [any_loop keys s (by decide) (impl_oneOf_l1 s keys) (fun i => by simp only [impl_oneOf_l1])]
  unfold keyB
  simp only [Option.bind_some]
  cases keys.any fun w => sEq w s <;> rfl
def charB (b : Int) : Bool := letterB b || figureB b
def nameB (s : ByteArray) : Bool := inB s.size 1 8 && (letterB ((bI s).getD 0 0) && ((bI s).all charB && !keyB s))
theorem name_loop (s : ByteArray) (hs : s.size ≤ 8) (f : Int → Option (Int ⊕ (Unit ⊕ Bool)))
    (hf : ∀ (k : Nat) (h : k < (bI s).length), f k = some (if charB (bI s)[k] = true then .inl (IntKind.wrap .i64 ((k : Int) + 1)) else .inr (.inr false)))
    (he : f s.size = some (.inr (.inl ()))) : loopP f 0 = some (if (bI s).all charB = true then .inl () else .inr false) := by
  refine loopP_all (bI s) charB f (fun k hk => ?_) (by rw [bI_length]; exact he)
  rw [hf k hk, w64_succ hk (show (bI s).length ≤ maxLen by rw [bI_length]; show _ ≤ 9223372036854775807; omega)]
theorem bI_zero {s : ByteArray} (h : 1 ≤ s.size) : sAt s 0 = some ((bI s).getD 0 0) := by
  have h1 : 0 < (bI s).length := by rw [bI_length]; omega
  have := sAt_bI h1
  rw [show ((0 : Nat) : Int) = 0 from rfl] at this
  rw [this, List.getD_eq_getElem?_getD, List.getElem?_eq_getElem h1]; rfl
theorem impl_NameOk_eq (s : ByteArray) : impl_NameOk s = some (nameB s) := by
  unfold impl_NameOk nameB
  simp only [impl_in_eq, Option.bind_some]
  by_cases hi : inB s.size 1 8 = true
  · have hi' := inB_iff.1 hi
    rw [bI_zero (by omega), name_loop s (by omega) (impl_NameOk_l1 s) (fun k hk => ?_) (by simp [impl_NameOk_l1])]
    · simp only [hi, impl_isLetter_eq, impl_KeyWord_eq, Option.bind_some, Bool.not_true, Bool.false_eq_true, if_false, Bool.true_and]
      cases letterB ((bI s).getD 0 0) <;> cases (bI s).all charB <;> cases keyB s <;> rfl
    · have hk2 : k < s.size := by rw [← bI_length]; exact hk
      simp only [impl_NameOk_l1, ofNat_lt_true hk2, if_true, sAt_bI hk, impl_isLetter_eq, impl_isFigure_eq, Option.bind_some]
      rw [show charB (bI s)[k] = (letterB (bI s)[k] || figureB (bI s)[k]) from rfl]
      cases letterB (bI s)[k] <;> cases figureB (bI s)[k] <;> rfl
  · simp [Bool.eq_false_iff.2 hi]
theorem spec_NameOk_eq (s : ByteArray) : spec_NameOk s = some (nameB s) := by
  unfold spec_NameOk nameB
  simp only [spec_in_eq, Option.bind_some]
  by_cases hi : inB s.size 1 8 = true
  · have hi' := inB_iff.1 hi
    rw [bI_zero (by omega), name_loop s (by omega) (spec_NameOk_l1 s) (fun k hk => ?_) (by simp [spec_NameOk_l1])]
    · simp only [hi, spec_l03Letter_eq, spec_KeyWord_eq, Option.bind_some, Bool.not_true, Bool.false_eq_true, if_false, Bool.true_and]
      cases letterB ((bI s).getD 0 0) <;> cases (bI s).all charB <;> cases keyB s <;> rfl
    · have hk2 : k < s.size := by rw [← bI_length]; exact hk
      simp only [spec_NameOk_l1, ofNat_lt_true hk2, if_true, sAt_bI hk, spec_l03Letter_eq, spec_l03Figure_eq, Option.bind_some]
      rw [show charB (bI s)[k] = (letterB (bI s)[k] || figureB (bI s)[k]) from rfl]
      cases letterB (bI s)[k] <;> cases figureB (bI s)[k] <;> rfl
  · simp [Bool.eq_false_iff.2 hi]
end Go.OM
set_option linter.unusedVariables false
set_option linter.unusedSimpArgs false
namespace Go.OM
/-! ### Words and codes -/
def hasBB (op : Int) : Bool := inB op 2 7 || (inB op 9 12 || (op == 14 || op == 15))
def hasCB (op : Int) : Bool := inB op 10 12
def hasAB (op : Int) : Bool := inB op 1 17 || (op == 19 || op == 20)
theorem impl_hasA_eq (op : Int) : impl_hasA op = some (hasAB op) := by
  unfold impl_hasA hasAB
  simp only [impl_in_eq, Option.bind_some]
  cases inB op 1 17 <;> cases op == 19 <;> rfl
theorem impl_hasB_eq (op : Int) : impl_hasB op = some (hasBB op) := by
  unfold impl_hasB hasBB
  simp only [impl_in_eq, Option.bind_some]
  cases inB op 2 7 <;> cases inB op 9 12 <;> cases op == 14 <;> rfl
theorem spec_l11HasB_eq (op : Int) : spec_l11HasB op = some (hasBB op) := by
  unfold spec_l11HasB hasBB
  simp only [spec_in_eq, Option.bind_some]
  cases inB op 2 7 <;> cases inB op 9 12 <;> cases op == 14 <;> rfl
theorem impl_hasC_eq (op : Int) : impl_hasC op = some (hasCB op) := by simp only [impl_hasC, impl_in_eq, Option.bind_some, hasCB]
theorem spec_l11HasC_eq (op : Int) : spec_l11HasC op = some (hasCB op) := by simp only [spec_l11HasC, spec_in_eq, Option.bind_some, hasCB]
def placeB (n : Nat) (v : Int) : Bool := inB v 0 ((n : Int) - 1)
theorem w64_pred {n : Nat} (h : n ≤ 1048576) : IntKind.wrap .i64 ((n : Int) - 1) = (n : Int) - 1 := w64 (by omega) (by omega)
theorem impl_isPlace_eq (c : GCode) (hc : c.Locals.length ≤ 1048576) (v : Int) (b : Bool) : impl_isPlace c v b = some (if b = true then placeB c.Locals.length v else v == 0) := by
  unfold impl_isPlace
  simp only [impl_in_eq, Option.bind_some, w64_pred hc, placeB, ite_some]
theorem spec_l11Place_eq (c : GCode) (hc : c.Locals.length ≤ 1048576) (v : Int) : spec_l11Place c v = some (placeB c.Locals.length v) := by
  unfold spec_l11Place
  simp only [spec_in_eq, Option.bind_some, w64_pred hc, placeB]
def aB (n : Nat) (x : GIns) : Bool := if (x.Op == 13 || x.Op == 20) = true then (x.A == -1 || placeB n x.A) else if (x.Op == 18) = true then x.A == 0 else placeB n x.A
def bB (n : Nat) (x : GIns) : Bool := if hasBB x.Op = true then placeB n x.B else x.B == 0
def cB (n : Nat) (x : GIns) : Bool := if hasCB x.Op = true then placeB n x.C else x.C == 0
def numB (m : Nat) (x : GIns) : Bool := if (x.Op == 1) = true then inB x.Num 0 1000000000 else if (x.Op == 18 || x.Op == 19) = true then inB x.Num 0 ((m : Int) - 1) else x.Num == 0
def restB (n : Nat) (x : GIns) : Bool := if (x.Op != 13) = true then sEq x.Name ⟨#[]⟩ && ((x.Args.length : Int) == 0) else x.Args.all (placeB n) && (nameB x.Name && decide ((x.Args.length : Int) ≤ 3))
def wordB (n m : Nat) (x : GIns) : Bool := inB x.Op 1 20 && (aB n x && (bB n x && (cB n x && (numB m x && restB n x))))
theorem args_loop (c : GCode) (x : GIns) (n : Nat) (hx : x.Args.length ≤ 1048576) (f : Int → Option (Int ⊕ (Unit ⊕ Bool)))
    (hf : ∀ (k : Nat) (h : k < x.Args.length), f k = some (if placeB n x.Args[k] = true then .inl (IntKind.wrap .i64 ((k : Int) + 1)) else .inr (.inr false)))
    (he : f x.Args.length = some (.inr (.inl ()))) : loopP f 0 = some (if x.Args.all (placeB n) = true then .inl () else .inr false) := by
  refine loopP_all x.Args (placeB n) f (fun k hk => ?_) he
  rw [hf k hk, w64_succ hk (show x.Args.length ≤ maxLen by show _ ≤ 9223372036854775807; omega)]
theorem inB_zero (x : Int) : inB x 0 0 = (x == 0) := by
  rw [Bool.eq_iff_iff, inB_iff, beq_iff_eq]
  omega
theorem aB_eq {n : Nat} {x : GIns} (h0 : inB x.Op 1 20 = true) : ((if (x.Op == 13) = true then x.A == -1 else if (x.Op == 20) = true then x.A == -1 else false) || (if hasAB x.Op = true then placeB n x.A else x.A == 0)) = aB n x := by
  have h1 := inB_iff.1 h0
  have hA : hasAB x.Op = !(x.Op == 18) := by
    unfold hasAB
    by_cases h18 : x.Op = 18
    · simp [h18, inB]
    · by_cases h17 : x.Op ≤ 17
      · have : inB x.Op 1 17 = true := inB_iff.2 ⟨h1.1, h17⟩
        simp [this, h18]
      · have h3 : x.Op = 19 ∨ x.Op = 20 := by omega
        rcases h3 with h3 | h3 <;> simp [h3]
  unfold aB
  rw [hA]
  by_cases h13 : x.Op = 13
  · simp [h13]
  · by_cases h20 : x.Op = 20
    · simp [h20]
    · by_cases h18 : x.Op = 18
      · simp [h18]
      · simp [h13, h20, h18]
theorem numB_eq (m : Nat) (x : GIns) : inB x.Num 0 (if (x.Op == 1) = true then 1000000000 else if (if (x.Op == 18) = true then x.Op == 18 else x.Op == 19) = true then (m : Int) - 1 else 0) = numB m x := by
  unfold numB
  cases x.Op == 1
  · cases x.Op == 18
    · cases x.Op == 19 <;> simp [inB_zero]
    · simp
  · simp
theorem impl_WordOk_eq (c : GCode) (x : GIns) (hc : c.Locals.length ≤ 1048576) (hm : c.Words.length ≤ 1048576) (hx : x.Args.length ≤ 1048576) : impl_WordOk c x = some (wordB c.Locals.length c.Words.length x) := by
  unfold impl_WordOk
  rw [args_loop c x c.Locals.length hx (impl_WordOk_l1 c x) (fun k hk => by
    simp only [impl_WordOk_l1, ofNat_lt_true hk, if_true, getI_at hk, Option.bind_some, impl_isPlace_eq c hc]
    cases placeB c.Locals.length x.Args[k] <;> rfl) (by simp [impl_WordOk_l1])]
  simp only [impl_in_eq, impl_hasA_eq, impl_hasB_eq, impl_hasC_eq, impl_isPlace_eq c hc, impl_NameOk_eq, Option.bind_some, w64_pred hm, ite_some, numB_eq]
  unfold wordB
  by_cases h0 : inB x.Op 1 20 = true
  · rw [← aB_eq h0]
    simp only [h0, Bool.not_true, Bool.false_eq_true, if_false, Bool.true_and]
    generalize (if (x.Op == 13) = true then x.A == -1 else if (x.Op == 20) = true then x.A == -1 else false) = N
    generalize (if hasAB x.Op = true then placeB c.Locals.length x.A else x.A == 0) = P
    have hQ : (if hasBB x.Op = true then placeB c.Locals.length x.B else x.B == 0) = bB c.Locals.length x := rfl
    have hR : (if hasCB x.Op = true then placeB c.Locals.length x.C else x.C == 0) = cB c.Locals.length x := rfl
    rw [hQ, hR]
    unfold restB
    generalize bB c.Locals.length x = Q
    generalize cB c.Locals.length x = R
    generalize numB c.Words.length x = U
    generalize (x.Op != 13) = o
    generalize sEq x.Name ⟨#[]⟩ = e
    generalize ((x.Args.length : Int) == 0) = l0
    generalize x.Args.all (placeB c.Locals.length) = al
    generalize nameB x.Name = nm
    generalize decide ((x.Args.length : Int) ≤ 3) = l3
    cases N <;> cases P <;> cases Q <;> cases R <;> cases U <;> cases o <;> cases al <;> cases nm <;> cases e <;> rfl
  · simp [Bool.eq_false_iff.2 h0]
theorem spec_l11A_eq (c : GCode) (x : GIns) (hc : c.Locals.length ≤ 1048576) : spec_l11A c x = some (aB c.Locals.length x) := by
  unfold spec_l11A aB
  simp only [spec_l11Place_eq c hc, Option.bind_some, ite_some]
  cases x.Op == 13 <;> cases x.Op == 20 <;> cases x.A == -1 <;> cases x.Op == 18 <;> rfl
theorem spec_WordOk_eq (c : GCode) (x : GIns) (hc : c.Locals.length ≤ 1048576) (hm : c.Words.length ≤ 1048576) (hx : x.Args.length ≤ 1048576) : spec_WordOk c x = some (wordB c.Locals.length c.Words.length x) := by
  unfold spec_WordOk
  rw [args_loop c x c.Locals.length hx (spec_WordOk_l1 c x) (fun k hk => by
    simp only [spec_WordOk_l1, ofNat_lt_true hk, if_true, getI_at hk, Option.bind_some, spec_l11Place_eq c hc]
    cases placeB c.Locals.length x.Args[k] <;> rfl) (by simp [spec_WordOk_l1])]
  simp only [spec_in_eq, spec_l11A_eq c x hc, spec_l11HasB_eq, spec_l11HasC_eq, spec_l11Place_eq c hc, spec_NameOk_eq, Option.bind_some, w64_pred hm]
  unfold wordB bB cB numB restB
  have e1 : (x.B != 0) = !(x.B == 0) := rfl
  have e2 : (x.C != 0) = !(x.C == 0) := rfl
  have e3 : (x.Num != 0) = !(x.Num == 0) := rfl
  rw [e1, e2, e3]
  generalize inB x.Op 1 20 = O
  generalize aB c.Locals.length x = A
  generalize hasBB x.Op = hb
  generalize hasCB x.Op = hcc
  generalize placeB c.Locals.length x.B = pB
  generalize placeB c.Locals.length x.C = pC
  generalize (x.B == 0) = zB
  generalize (x.C == 0) = zC
  generalize (x.Num == 0) = zN
  generalize inB x.Num 0 1000000000 = n1
  generalize inB x.Num 0 ((c.Words.length : Int) - 1) = n2
  generalize (x.Op == 1) = o1
  generalize (x.Op == 18) = o18
  generalize (x.Op == 19) = o19
  generalize (x.Op != 13) = o
  generalize sEq x.Name ⟨#[]⟩ = e
  generalize ((x.Args.length : Int) == 0) = l0
  generalize x.Args.all (placeB c.Locals.length) = al
  generalize nameB x.Name = nm
  generalize decide ((x.Args.length : Int) ≤ 3) = l3
  have rest : (if o = true then (Option.bind (if e = true then some l0 else some false) fun v85 => some v85) else match (if al = true then (Sum.inl () : Unit ⊕ Bool) else Sum.inr false) with | Sum.inr z => some z | Sum.inl () => Option.bind (if nm = true then some l3 else some false) fun v109 => some v109) = some (if o = true then e && l0 else al && (nm && l3)) := by
    cases o <;> cases e <;> cases al <;> cases nm <;> rfl
  cases O
  · rfl
  cases A
  · rfl
  cases hb <;> cases pB <;> cases zB <;> cases hcc <;> cases pC <;> cases zC <;> first | rfl | (cases o1 <;> cases o18 <;> cases o19 <;> cases n1 <;> cases n2 <;> cases zN <;> first | rfl | exact rest)
/-- Is a code right? -/
def codeB (c : GCode) : Bool := nameB c.Name && (decide (c.Locals.length ≤ 200) && (inB c.Params 0 c.Locals.length && (inB c.Words.length 1 400 && ((match c.Words[c.Words.length - 1]? with | some x => x.Op == 20 | none => false) && (c.Locals.all (fun t => inB t 1 4) && c.Words.all (wordB c.Locals.length c.Words.length))))))
theorem codes_eq (c : GCode) (h : GCode.le 1048576 c) (g : Option Bool)
    (hg : g = Option.bind (
    (some (nameB c.Name)).bind fun r4 =>
    if (!r4) = true then
      some true
    else
      if (decide ((c.Locals.length : Int) > 200)) = true then
        some true
      else
        (some (inB c.Params 0 (c.Locals.length : Int))).bind fun r10 =>
        if (!r10) = true then
          some true
        else
          (some (inB (c.Words.length : Int) 1 400)).bind fun r14 =>
          if (!r14) = true then
            some true
          else
            (getI c.Words (IntKind.wrap .i64 ((c.Words.length : Int) - 1))).bind fun e18 =>
            some (e18.Op != 20)) fun v19 =>
  if v19 = true then
    some false
  else
    Option.bind (some (if (c.Locals.all fun t => inB t 1 4) = true then (Sum.inl () : Unit ⊕ Bool) else Sum.inr false)) fun j24 =>
    match j24 with
    | Sum.inr z => some z
    | Sum.inl () =>
      Option.bind (some (if c.Words.all (wordB c.Locals.length c.Words.length) = true then (Sum.inl () : Unit ⊕ Bool) else Sum.inr false)) fun j40 =>
      match j40 with
      | Sum.inr z => some z
      | Sum.inl () =>
        some true) : g = some (codeB c) := by
  subst hg
  obtain ⟨h1, h2, h3⟩ := h
  rw [w64_pred h3.1]
  unfold codeB
  have hd : decide ((c.Locals.length : Int) > 200) = !decide (c.Locals.length ≤ 200) := by
    by_cases e : c.Locals.length ≤ 200
    · simp [e]; omega
    · simp [e]; omega
  rw [hd]
  cases nameB c.Name
  · rfl
  cases decide (c.Locals.length ≤ 200)
  · rfl
  cases inB c.Params 0 (c.Locals.length : Int)
  · rfl
  cases hw : inB (c.Words.length : Int) 1 400
  · rfl
  · have hw' := inB_iff.1 hw
    have hlt : c.Words.length - 1 < c.Words.length := by omega
    rw [show (c.Words.length : Int) - 1 = ((c.Words.length - 1 : Nat) : Int) by omega, getI_at hlt, List.getElem?_eq_getElem hlt]
    simp only [Option.bind_some, Bool.not_true, Bool.false_eq_true, if_false, Bool.true_and, bne]
    cases c.Words[c.Words.length - 1].Op == 20
    · rfl
    cases c.Locals.all fun t => inB t 1 4
    · rfl
    cases c.Words.all (wordB c.Locals.length c.Words.length) <;> rfl
theorem impl_CodeOk_eq (c : GCode) (h : GCode.le 1048576 c) : impl_CodeOk c = some (codeB c) := by
  have h' := h
  obtain ⟨h1, h2, h3⟩ := h
  refine codes_eq c h' _ ?_
  unfold impl_CodeOk
  rw [loopP_all c.Locals (fun t => inB t 1 4) (impl_CodeOk_l1 c) (fun k hk => by
      simp only [impl_CodeOk_l1, ofNat_lt_true hk, if_true, getI_at hk, Option.bind_some, impl_in_eq, w64_succ hk (show c.Locals.length ≤ maxLen by show _ ≤ 9223372036854775807; omega)]
      cases inB c.Locals[k] 1 4 <;> rfl) (by simp [impl_CodeOk_l1]),
    loopP_all c.Words (wordB c.Locals.length c.Words.length) (impl_CodeOk_l2 c) (fun k hk => by
      simp only [impl_CodeOk_l2, ofNat_lt_true hk, if_true, getI_at hk, Option.bind_some, impl_WordOk_eq c c.Words[k] h2 h3.1 (h3.2 _ (List.getElem_mem hk)).2, w64_succ hk (show c.Words.length ≤ maxLen by show _ ≤ 9223372036854775807; omega)]
      cases wordB c.Locals.length c.Words.length c.Words[k] <;> rfl) (by simp [impl_CodeOk_l2])]
  simp only [impl_NameOk_eq, impl_in_eq]
  rfl
theorem spec_CodeOk_eq (c : GCode) (h : GCode.le 1048576 c) : spec_CodeOk c = some (codeB c) := by
  have h' := h
  obtain ⟨h1, h2, h3⟩ := h
  refine codes_eq c h' _ ?_
  unfold spec_CodeOk
  rw [loopP_all c.Locals (fun t => inB t 1 4) (spec_CodeOk_l1 c) (fun k hk => by
      simp only [spec_CodeOk_l1, ofNat_lt_true hk, if_true, getI_at hk, Option.bind_some, spec_in_eq, w64_succ hk (show c.Locals.length ≤ maxLen by show _ ≤ 9223372036854775807; omega)]
      cases inB c.Locals[k] 1 4 <;> rfl) (by simp [spec_CodeOk_l1]),
    loopP_all c.Words (wordB c.Locals.length c.Words.length) (spec_CodeOk_l2 c) (fun k hk => by
      simp only [spec_CodeOk_l2, ofNat_lt_true hk, if_true, getI_at hk, Option.bind_some, spec_WordOk_eq c c.Words[k] h2 h3.1 (h3.2 _ (List.getElem_mem hk)).2, w64_succ hk (show c.Words.length ≤ maxLen by show _ ≤ 9223372036854775807; omega)]
      cases wordB c.Locals.length c.Words.length c.Words[k] <;> rfl) (by simp [spec_CodeOk_l2])]
  simp only [spec_NameOk_eq, spec_in_eq]
  rfl
end Go.OM
set_option linter.unusedVariables false
set_option linter.unusedSimpArgs false
namespace Go.OM
/-! ### What comes behind a word; what is reached -/
theorem codeB_facts {c : GCode} (h : codeB c = true) : nameB c.Name = true ∧ c.Locals.length ≤ 200 ∧ (0 ≤ c.Params ∧ c.Params ≤ c.Locals.length) ∧ (1 ≤ c.Words.length ∧ c.Words.length ≤ 400) ∧ (∃ x, c.Words[c.Words.length - 1]? = some x ∧ x.Op = 20) ∧ (∀ t ∈ c.Locals, 1 ≤ t ∧ t ≤ 4) ∧ ∀ x ∈ c.Words, wordB c.Locals.length c.Words.length x = true := by
  unfold codeB at h
  simp only [Bool.and_eq_true, decide_eq_true_eq, inB_iff, List.all_eq_true] at h
  obtain ⟨h1, h2, h3, h4, h5, h6, h7⟩ := h
  refine ⟨h1, h2, h3, ⟨by omega, by omega⟩, ?_, h6, h7⟩
  split at h5
  · rename_i x hx
    exact ⟨x, hx, by simpa using h5⟩
  · cases h5
theorem wordB_num {n m : Nat} {x : GIns} (h : wordB n m x = true) (hop : x.Op = 18 ∨ x.Op = 19) : 0 ≤ x.Num ∧ x.Num < m := by
  unfold wordB at h
  simp only [Bool.and_eq_true] at h
  have h5 := h.2.2.2.2.1
  unfold numB at h5
  rcases hop with e | e
  · simp [e, inB] at h5; omega
  · simp [e, inB] at h5; omega
theorem foldE_inl {α σ ρ : Type} (h : σ → α → σ) (fin : σ → ρ) : ∀ (l : List α) (s : σ), foldE (fun s x => (.inl (h s x) : σ ⊕ ρ)) fin l s = fin (l.foldl h s)
  | [], s => rfl
  | x :: l, s => by simp only [foldE, List.foldl_cons]; exact foldE_inl h fin l _
theorem foldl_filter {α : Type} (p : α → Bool) : ∀ (l s : List α), l.foldl (fun s e => if p e = true then s ++ [e] else s) s = s ++ l.filter p
  | [], s => by simp
  | x :: l, s => by
    rw [List.foldl_cons, foldl_filter p l, List.filter_cons]
    cases p x <;> simp
theorem app1 {n : Nat} {s : List Int} {e : Int} (h : s.length ≤ 1048576) (hn : n ≤ 64) : appI n s [e] = some (s ++ [e]) := by
  unfold appI
  have h1 : (s.length + [e].length) * n ≤ (s.length + [e].length) * 64 := Nat.mul_le_mul_left _ hn
  rw [if_pos ⟨by simp only [List.length_cons, List.length_nil] at h1 ⊢; omega, by simp only [List.length_cons, List.length_nil]; omega⟩]
def addL (out : List Int) (n : Int) : List Int := if out.contains n = true then out else out ++ [n]
theorem addL_len (out : List Int) (n : Int) : (addL out n).length ≤ out.length + 1 := by
  unfold addL; split <;> simp
theorem spec_l11Add_eq (out : List Int) (n : Int) (h : out.length ≤ 1048576) : spec_l11Add out n = some (addL out n) := by
  unfold spec_l11Add addL
  rw [loopP_find out (fun e => if (e == n) = true then some out else none) (spec_l11Add_l1 out n) (fun k hk => by
    simp only [spec_l11Add_l1, ofNat_lt_true hk, if_true, getI_at hk, Option.bind_some, w64_succ hk (show out.length ≤ maxLen by show _ ≤ 9223372036854775807; omega)]
    cases out[k] == n <;> rfl) (by simp [spec_l11Add_l1])]
  have key : ∀ l : List Int, l.findSome? (fun e => if (e == n) = true then some out else none) = if l.contains n = true then some out else none := by
    intro l
    induction l with
    | nil => rfl
    | cons x l ih =>
      rw [List.findSome?_cons, List.contains_cons]
      by_cases hx : x = n
      · simp [hx]
      · have h1 : (x == n) = false := by simpa using hx
        have h2 : (n == x) = false := by simpa using fun e => hx e.symm
        rw [h1, h2, Bool.false_or, ← ih]
        rfl
  rw [key]
  cases out.contains n
  · simp only [Bool.false_eq_true, if_false, Option.bind_some, app1 (n := 8) h (by omega)]
  · rfl
def bndB (m : Nat) (e : Int) : Bool := inB e 0 ((m : Int) - 1)
theorem impl_Next_loop (c : GCode) (hm : c.Words.length ≤ 1048576) (l : List Int) (hl : l.length ≤ 1000) : loopP (impl_Next_l1 c l) ([], 0) = some (l.filter (bndB c.Words.length)) := by
  have := loopP_fold l (fun (s : List Int) k => (s, (k : Int))) (fun k s => s.length ≤ k) (fun s e => .inl (if bndB c.Words.length e = true then s ++ [e] else s)) id (impl_Next_l1 c l) (fun s k hk hI => by
    left
    simp only [impl_Next_l1, ofNat_lt_true hk, if_true, getI_at hk, Option.bind_some, impl_in_eq, w64_pred hm, w64_succ hk (show l.length ≤ maxLen by show _ ≤ 9223372036854775807; omega)]
    unfold bndB
    cases hb : inB l[k] 0 ((c.Words.length : Int) - 1)
    · exact ⟨s, by simp, rfl, by omega⟩
    · exact ⟨s ++ [l[k]], by simp, by rw [if_pos rfl, app1 (by omega) (by omega)]; rfl, by simp; omega⟩) (fun s _ => by simp [impl_Next_l1]) [] (by simp)
  rw [foldE_inl, foldl_filter] at this
  simpa using this
theorem spec_Next_loop (c : GCode) (hm : c.Words.length ≤ 1048576) (l : List Int) (hl : l.length ≤ 1000) : loopP (spec_Next_l1 c l) ([], 0) = some ((l.filter (bndB c.Words.length)).foldl addL []) := by
  have := loopP_fold l (fun (s : List Int) k => (s, (k : Int))) (fun k s => s.length ≤ k) (fun s e => .inl (if bndB c.Words.length e = true then addL s e else s)) id (spec_Next_l1 c l) (fun s k hk hI => by
    left
    simp only [spec_Next_l1, ofNat_lt_true hk, if_true, getI_at hk, Option.bind_some, spec_in_eq, w64_pred hm, w64_succ hk (show l.length ≤ maxLen by show _ ≤ 9223372036854775807; omega), spec_l11Add_eq s l[k] (by omega)]
    unfold bndB
    cases hb : inB l[k] 0 ((c.Words.length : Int) - 1)
    · exact ⟨s, by simp, rfl, by omega⟩
    · exact ⟨addL s l[k], by simp, rfl, by have := addL_len s l[k]; omega⟩) (fun s _ => by simp [spec_Next_l1]) [] (by simp)
  rw [foldE_inl] at this
  have key : ∀ (l s : List Int), l.foldl (fun s e => if bndB c.Words.length e = true then addL s e else s) s = (l.filter (bndB c.Words.length)).foldl addL s := by
    intro l
    induction l with
    | nil => intro s; rfl
    | cons x l ih =>
      intro s
      rw [List.foldl_cons, ih, List.filter_cons]
      cases bndB c.Words.length x <;> rfl
  rw [key] at this
  simpa using this
/-- The words that may come behind one. -/
def rawNext (x : GIns) (i : Nat) : List Int := if x.Op = 20 then [] else if x.Op = 18 then [x.Num] else if x.Op = 19 then [((i + 1 : Nat) : Int), x.Num] else [((i + 1 : Nat) : Int)]
def nextI (c : GCode) (i : Nat) : List Int := match c.Words[i]? with
  | some x => (rawNext x i).filter (bndB c.Words.length)
  | none => []
def nextS (c : GCode) (i : Nat) : List Int := (nextI c i).foldl addL []
theorem impl_Next_eq (c : GCode) (hm : c.Words.length ≤ 1048576) (i : Nat) (hi : i < c.Words.length) : impl_Next c i = some (nextI c i) := by
  unfold impl_Next nextI
  have hin : inB (i : Int) 0 ((c.Words.length : Int) - 1) = true := inB_iff.2 ⟨by omega, by omega⟩
  have hw : IntKind.wrap .i64 ((i : Int) + 1) = ((i + 1 : Nat) : Int) := w64_succ hi (show c.Words.length ≤ maxLen by show _ ≤ 9223372036854775807; omega)
  simp only [impl_in_eq, w64_pred hm, Option.bind_some, hin, Bool.not_true, Bool.false_eq_true, if_false, getI_at hi, List.getElem?_eq_getElem hi, hw]
  have e : (if (c.Words[i].Op == 20) = true then some [] else if (c.Words[i].Op == 18) = true then some [c.Words[i].Num] else if (c.Words[i].Op == 19) = true then (appI 8 [((i + 1 : Nat) : Int)] [c.Words[i].Num]).bind fun l17 => some l17 else some [((i + 1 : Nat) : Int)]) = some (rawNext c.Words[i] i) := by
    unfold rawNext
    rw [app1 (by simp) (by omega)]
    by_cases h1 : c.Words[i].Op = 20
    · simp [h1]
    · by_cases h2 : c.Words[i].Op = 18
      · simp [h2]
      · by_cases h3 : c.Words[i].Op = 19
        · simp [h3]
        · simp [h1, h2, h3]
  rw [e]
  have hl : (rawNext c.Words[i] i).length ≤ 1000 := by unfold rawNext; split <;> (try split) <;> (try split) <;> simp
  simp only [Option.bind_some, impl_Next_loop c hm _ hl]
theorem spec_Next_eq (c : GCode) (hm : c.Words.length ≤ 1048576) (i : Nat) (hi : i < c.Words.length) : spec_Next c i = some (nextS c i) := by
  unfold spec_Next nextS nextI
  have hin : inB (i : Int) 0 ((c.Words.length : Int) - 1) = true := inB_iff.2 ⟨by omega, by omega⟩
  have hw : IntKind.wrap .i64 ((i : Int) + 1) = ((i + 1 : Nat) : Int) := w64_succ hi (show c.Words.length ≤ maxLen by show _ ≤ 9223372036854775807; omega)
  simp only [spec_in_eq, w64_pred hm, Option.bind_some, hin, Bool.not_true, Bool.false_eq_true, if_false, getI_at hi, List.getElem?_eq_getElem hi, hw]
  have e : (if (c.Words[i].Op == 20) = true then some [] else if (c.Words[i].Op == 18) = true then some [c.Words[i].Num] else if (c.Words[i].Op == 19) = true then some [((i + 1 : Nat) : Int), c.Words[i].Num] else some [((i + 1 : Nat) : Int)]) = some (rawNext c.Words[i] i) := by
    unfold rawNext
    by_cases h1 : c.Words[i].Op = 20
    · simp [h1]
    · by_cases h2 : c.Words[i].Op = 18
      · simp [h2]
      · by_cases h3 : c.Words[i].Op = 19
        · simp [h3]
        · simp [h1, h2, h3]
  rw [e]
  have hl : (rawNext c.Words[i] i).length ≤ 1000 := by unfold rawNext; split <;> (try split) <;> (try split) <;> simp
  simp only [Option.bind_some, spec_Next_loop c hm _ hl]
theorem mem_addL {out : List Int} {n m : Int} : m ∈ addL out n ↔ m ∈ out ∨ m = n := by
  unfold addL
  by_cases h : out.contains n = true
  · rw [if_pos h]
    have := List.contains_iff_mem.1 h
    constructor
    · exact .inl
    · rintro (h | rfl)
      · exact h
      · exact this
  · rw [if_neg h]; simp
theorem mem_foldl_addL (m : Int) : ∀ (l s : List Int), m ∈ l.foldl addL s ↔ m ∈ s ∨ m ∈ l
  | [], s => by simp
  | x :: l, s => by rw [List.foldl_cons, mem_foldl_addL m l, mem_addL, List.mem_cons, or_assoc]
theorem mem_nextS {c : GCode} {i : Nat} {m : Int} : m ∈ nextS c i ↔ m ∈ nextI c i := by unfold nextS; rw [mem_foldl_addL]; simp
theorem nextI_bnd {c : GCode} {i : Nat} {m : Int} (h : m ∈ nextI c i) : 0 ≤ m ∧ m < c.Words.length := by
  unfold nextI at h
  split at h
  · have := (List.mem_filter.1 h).2
    have := inB_iff.1 this
    omega
  · simp at h
end Go.OM
