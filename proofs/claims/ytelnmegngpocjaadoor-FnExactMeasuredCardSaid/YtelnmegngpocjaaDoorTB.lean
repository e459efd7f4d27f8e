import Derived.Test.YtelnmegngpocjaaDoorTA
import Derived.Shelf.Utf8.RuneCount
import Derived.Shelf.Strings.Search1
import Derived.Shelf.Strings.Search2
import Derived.Shelf.Strings.Search3
import Derived.Shelf.Strings.Count
import Derived.Shelf.LaysM
import Derived.Shelf.Strings.Shaped
import Derived.Shelf.Strings.Split
import Derived.Shelf.Strings.SplitShaped
import Derived.Shelf.Unicode.Decode
import Derived.Shelf.Strings.RuneCount
import Derived.Shelf.Strings.Explode
import Derived.Shelf.Unicode.DecodeSlow
import Derived.Shelf.Unicode.DecodeAny
import Derived.Test.YtelnmegngpocjaaDoorProg
set_option linter.unusedVariables false
set_option linter.unusedSimpArgs false
set_option maxHeartbeats 1000000
namespace Go.Proofs.T
open Go.OM
theorem res59 : Tryd.f59.results.toList = [.tmp 2] := rfl
theorem ent59 : Enters E.P 59 := enters_of Tryd.func59 (by simp [Tryd.f59]) rfl
theorem spec_ProgramOk_ok (p1 : GProgram) {r0 : Bool} (h : spec_ProgramOk p1 = some r0) : Ok E 59 [.val (GProgram.enc false p1)] [vb r0] [] := by
  refine ok_of_body (fn := Tryd.f59) Tryd.func59 rfl (by simp [Tryd.f59]) fun C hN hP => ?_
  have hPB : ∀ l, pinK [] l = true → pinB C.pin l = true := pinB_of (by rw [hP]; rfl)
  have hN' : C.N = 108 := hN
  clear hN
  unfold spec_ProgramOk at h
  refine SWp.seqR rfl (hPB _ rfl) fun K hK => ?_
  iterate 2 (refine wps_cons rfl fun K hK => ?_; simp [hN']; refine hK _ ?_; clear hK)
  refine wps_nil (hK _ ?_); clear hK
  refine SWp.seq ?_
  obtain ⟨v10, hj2, h⟩ := bind_some h
  refine SWp.seqRC rfl (hPB _ rfl) [1, 18] [1] (fun _ : Unit => ⟨[(1, .ref (.box 1) 0 []), (18, .t (vb v10))], [(1, [.sl false 4 (List.map (GNode.enc false) p1.Nodes), .sl false 5 (List.map (GFn.enc false) p1.Fns)])]⟩) (fun _ => True) (fun _ _ => ?_) fun K3 hK3 => ?_
  rotate_left
  · refine wps_cons rfl fun K hK => ?_; simp [hN']; refine hK _ ?_; clear hK
    iterate 2 (refine wps_cons rfl fun K hK => ?_; simp [hN']; refine hK _ ?_; clear hK)
    obtain ⟨r4, hc5, hj2⟩ := bind_some hj2
    refine wps_call [(.take, .tmp 9), (.take, .const (.int .i64 1)), (.take, .const (.int .i64 300))] rfl rfl ent90 (spec_l01In_ok _ _ _ hc5) fun K hK => ?_; simp [hN']; refine hK _ ?_; clear hK
    iterate 2 (refine wps_cons rfl fun K hK => ?_; simp [hN']; refine hK _ ?_; clear hK)
    rcases ite_or hj2 with ⟨hb6, hj2⟩ | ⟨hb7, hj2⟩
    · have hb6s := hb6
      try simp at hb6s
      iterate 5 (refine wps_off fun K hK => ?_; simp [hN', hb6, hb6s]; refine hK _ ?_; clear hK)
      refine wps_cons rfl fun K hK => ?_; simp [hN', hb6, hb6s]; refine hK _ ?_; clear hK
      refine wps_nil ?_
      cases hj2
      exact hK3 _ () [] trivial (by simp [hN', hb6, hb6s])
    · have hb7s := hb7
      try simp at hb7s
      iterate 3 (refine wps_cons rfl fun K hK => ?_; simp [hN', hb7, hb7s]; refine hK _ ?_; clear hK)
      obtain ⟨r8, hc9, hj2⟩ := bind_some hj2
      refine wps_call [(.take, .tmp 15), (.take, .const (.int .i64 1)), (.take, .const (.int .i64 8))] rfl rfl ent90 (spec_l01In_ok _ _ _ hc9) fun K hK => ?_; simp [hN', hb7, hb7s]; refine hK _ ?_; clear hK
      iterate 2 (refine wps_cons rfl fun K hK => ?_; simp [hN', hb7, hb7s]; refine hK _ ?_; clear hK)
      refine wps_nil ?_
      cases hj2
      exact hK3 _ () [] trivial (by simp [hN', hb7, hb7s])
  rcases ite_or h with ⟨hb11, h⟩ | ⟨hb12, h⟩
  · refine SWp.condT' (b := v10) (by simp) hb11 ?_
    refine SWp.seqR rfl (hPB _ rfl) fun K hK => ?_
    refine wps_cons rfl fun K hK => ?_; simp [hN']; refine hK _ ?_; clear hK
    refine wps_nil (hK _ ?_); clear hK
    cases h
    refine SWp.ret ?_
    simp [thenS, inBlockS, res59]
  · refine SWp.condF' (b := v10) (by simp) hb12 ?_
    refine SWp.skip ?_
    show SWp E C _ _ _
    refine SWp.seqR rfl (hPB _ rfl) fun K hK => ?_
    iterate 6 (refine wps_cons rfl fun K hK => ?_; simp [hN']; refine hK _ ?_; clear hK)
    obtain ⟨r13, hc14, h⟩ := bind_some h
    refine wps_call [(.take, .tmp 20), (.take, .tmp 24)] rfl rfl ent101 (spec_l04Deeps_ok _ _ hc14) fun K hK => ?_; simp [hN']; refine hK _ ?_; clear hK
    refine wps_cons rfl fun K hK => ?_; simp [hN']; refine hK _ ?_; clear hK
    refine wps_nil (hK _ ?_); clear hK
    refine SWp.seq ?_
    refine SWp.seqR rfl (hPB _ rfl) fun K hK => ?_
    iterate 4 (refine wps_cons rfl fun K hK => ?_; simp [hN']; refine hK _ ?_; clear hK)
    obtain ⟨e15, he15, h⟩ := bind_some h
    obtain ⟨he15a, he15b, he15c, he15d⟩ := getI_some he15
    have he15j := he15b; try simp at he15j
    try simp only [Int.toNat_natCast] at he15c he15d
    iterate 3 (refine wps_cons rfl fun K hK => ?_; simp [hN', he15a, he15b, he15c, he15d, he15j]; refine hK _ ?_; clear hK)
    refine wps_nil (hK _ ?_); clear hK
    rcases ite_or h with ⟨hb16, h⟩ | ⟨hb17, h⟩
    · refine SWp.condT' (b := e15 == 0) (by simp) hb16 ?_
      refine SWp.seqR rfl (hPB _ rfl) fun K hK => ?_
      refine wps_cons rfl fun K hK => ?_; simp [hN']; refine hK _ ?_; clear hK
      refine wps_nil (hK _ ?_); clear hK
      cases h
      refine SWp.ret ?_
      simp [thenS, inBlockS, res59]
    · refine SWp.condF' (b := e15 == 0) (by simp) hb17 ?_
      refine SWp.skip ?_
      show SWp E C _ _ _
      refine SWp.seqR rfl (hPB _ rfl) fun K hK => ?_
      iterate 2 (refine wps_cons rfl fun K hK => ?_; simp [hN']; refine hK _ ?_; clear hK)
      obtain ⟨r18, hc19, h⟩ := bind_some h
      refine wps_call [(.take, .tmp 34)] rfl rfl ent102 (spec_l04Used_ok _ hc19) fun K hK => ?_; simp [hN']; refine hK _ ?_; clear hK
      refine wps_cons rfl fun K hK => ?_; simp [hN']; refine hK _ ?_; clear hK
      refine wps_nil (hK _ ?_); clear hK
      obtain ⟨j22, hj20, h⟩ := bind_some h
      refine SWp.seqC [4] [] (fun v : List Int => ⟨[(4, .t (.sl true 1 (List.map vi v)))], []⟩) (fun v => j22 = Sum.inl v) (fun v hv => ?_) fun K21 hK21 => ?_
      rotate_left
      · refine SWp.seqR rfl (hPB _ rfl) fun K hK => ?_
        refine wps_cons rfl fun K hK => ?_; simp [hN']; refine hK _ ?_; clear hK
        refine wps_nil (hK _ ?_); clear hK
        refine SWp.block ?_
        refine SWp.loopO [] [1, 4, 5] [1] (fun v : (List Int) × Int => ⟨[(1, .ref (.box 1) 0 []), (4, .t (.sl true 1 (List.map vi v.1))), (5, .t (vi v.2))], [(1, [.sl false 4 (List.map (GNode.enc false) p1.Nodes), .sl false 5 (List.map (GFn.enc false) p1.Fns)])]⟩) (spec_ProgramOk_l1 p1) _ (r18, 0) hj20 (by simp [hN']) ?_
        intro g s27 h25 ho26
        obtain ⟨used23, i24⟩ := g
        simp only [spec_ProgramOk_l1] at h25
        try dsimp only
        refine SWp.seq ?_
        refine SWp.seqR rfl (hPB _ rfl) fun K hK => ?_
        iterate 5 (refine wps_cons rfl fun K hK => ?_; simp [hN']; refine hK _ ?_; clear hK)
        refine wps_nil (hK _ ?_); clear hK
        rcases ite_or h25 with ⟨hb28, h25⟩ | ⟨hb29, h25⟩
        · refine SWp.condT' (b := decide (i24 < (p1.Fns.length : Int))) (by simp) hb28 ?_
          refine SWp.skip ?_
          show SWp E C _ _ _
          refine SWp.seq ?_
          refine SWp.block ?_
          refine SWp.seq ?_
          refine SWp.seqR rfl (hPB _ rfl) fun K hK => ?_
          iterate 2 (refine wps_cons rfl fun K hK => ?_; simp [hN']; refine hK _ ?_; clear hK)
          obtain ⟨r30, hc31, h25⟩ := bind_some h25
          refine wps_call [(.take, .tmp 43), (.take, .tmp 44)] rfl rfl ent103 (spec_l04Fn_ok _ _ hc31) fun K hK => ?_; simp [hN']; refine hK _ ?_; clear hK
          refine wps_cons rfl fun K hK => ?_; simp [hN']; refine hK _ ?_; clear hK
          refine wps_nil (hK _ ?_); clear hK
          rcases ite_or h25 with ⟨hb32, h25⟩ | ⟨hb33, h25⟩
          · refine SWp.condT' (b := !r30) (by simp) hb32 ?_
            refine SWp.seqR rfl (hPB _ rfl) fun K hK => ?_
            refine wps_cons rfl fun K hK => ?_; simp [hN']; refine hK _ ?_; clear hK
            refine wps_nil (hK _ ?_); clear hK
            have h34 := congrArg some (ho26 _ (Option.some.inj h25).symm)
            cases h34
            try dsimp only at h
            cases h
            refine SWp.ret ?_
            simp [thenS, inBlockS, res59]
          · refine SWp.condF' (b := !r30) (by simp) hb33 ?_
            refine SWp.skip ?_
            show SWp E C _ _ _
            refine SWp.seq ?_
            obtain ⟨e36, he36, h25⟩ := bind_some h25
            obtain ⟨he36a, he36b, he36c, he36d⟩ := getI_some he36
            obtain ⟨e37, he37, h25⟩ := bind_some h25
            obtain ⟨he37a, he37b, he37c, he37d⟩ := getI_some he37
            have he37j := he37b; try simp at he37j
            try simp only [Int.toNat_natCast] at he37c he37d
            refine SWp.drawT rfl (hPB _ rfl) [(47, .al (.slot 4) 0 [] none), (48, .ref (.box 1) 1 []), (49, .t (.sl false 5 (List.map (GFn.enc false) p1.Fns))), (50, .t (vi i24)), (51, .rop [vs e36.Name, .sl false 2 (List.map GParam.enc e36.Params), vi e36.Res, vi e36.Body, vi e36.Ret] 0), (52, .rop [vs e36.Name, .sl false 2 (List.map GParam.enc e36.Params), vi e36.Res, vi e36.Body, vi e36.Ret] 3), (53, .t (vi e36.Body)), (54, .al (.slot 4) 0 [] none), (55, .ref (.box 1) 1 []), (56, .t (.sl false 5 (List.map (GFn.enc false) p1.Fns))), (57, .t (vi i24)), (58, .rop [vs e36.Name, .sl false 2 (List.map GParam.enc e36.Params), vi e36.Res, vi e36.Body, vi e36.Ret] 0), (59, .rop [vs e36.Name, .sl false 2 (List.map GParam.enc e36.Params), vi e36.Res, vi e36.Body, vi e36.Ret] 3), (60, .t (vi e36.Body)), (61, .ref (.slot 4) 0 [(e36.Body.toNat, 0)]), (62, .t (vi e37)), (63, .t (vi (IntKind.wrap .i64 (e37 + 1000))))] [[], [], [1], [], [1, 2, 3], [1, 2, 3, 4], [1, 2, 3, 4, 5], [], [], [8], [], [8, 9, 10], [8, 9, 10, 11], [8, 9, 10, 11, 12], [7, 8, 9, 10, 11, 12, 13], [7, 8, 9, 10, 11, 12, 13, 14], [7, 8, 9, 10, 11, 12, 13, 14, 15], [0, 1, 2, 3, 4, 5, 6, 7, 8, 9, 10, 11, 12, 13, 14, 15, 16], [0, 1, 2, 3, 4, 5, 6, 7, 8, 9, 10, 11, 12, 13, 14, 15, 16, 17]] (by simp) (by simp) (by simp [look]) rfl rfl rfl ?_ fun K hK => ?_
            · refine ⟨?_, ?_, ?_, ?_, ?_, ?_, ?_, ?_, ?_, ?_, ?_, ?_, ?_, ?_, ?_, ?_, ?_, trivial⟩
              all_goals (intro τ hbx hb hd hf K hK; try simp [vsAt] at hd; simp [vsAt] at hf; first | (refine wps_cons rfl fun K' hK' => ?_; simp [hN', hbx, hb, hd, hf, he36a, he36b, he36c, he36d, he37a, he37b, he37c, he37d, he37j]; exact hK' _ (wps_nil (hK _ (by simp [vsAt, hbx, he36a, he36b, he36c, he36d, he37a, he37b, he37c, he37d, he37j])))))
            refine wps_cons rfl fun K hK => ?_; simp [hN', he36a, he36b, he36c, he36d, he37a, he37b, he37c, he37d, he37j]; refine hK _ ?_; clear hK
            obtain ⟨l38, hl38, h25⟩ := bindS_some h25
            have hl38f : (List.map vi used23).set e36.Body.toNat (vi (IntKind.wrap .i64 (e37 + 1000))) = List.map vi l38 := set_map (f := vi) hl38
            try simp only [Int.toNat_natCast] at hl38f
            refine wps_cons rfl fun K hK => ?_; simp [hN', he36a, he36b, he36c, he36d, he37a, he37b, he37c, he37d, he37j, hl38f]; refine hK _ ?_; clear hK
            refine wps_nil (hK _ ?_); clear hK
            show SWp E C _ _ _
            refine SWp.seqR rfl (hPB _ rfl) fun K hK => ?_
            iterate 3 (refine wps_cons rfl fun K hK => ?_; simp [hN']; refine hK _ ?_; clear hK)
            obtain ⟨e39, he39, h25⟩ := bind_some h25
            obtain ⟨he39a, he39b, he39c, he39d⟩ := getI_some he39
            iterate 4 (refine wps_cons rfl fun K hK => ?_; simp [hN', he39a, he39b, he39c, he39d]; refine hK _ ?_; clear hK)
            refine wps_nil (hK _ ?_); clear hK
            rcases ite_or h25 with ⟨hb40, h25⟩ | ⟨hb41, h25⟩
            · refine SWp.condT' (b := decide (e39.Ret ≥ 0)) (by simp) hb40 ?_
              obtain ⟨e43, he43, h25⟩ := bind_some h25
              obtain ⟨he43a, he43b, he43c, he43d⟩ := getI_some he43
              obtain ⟨e44, he44, h25⟩ := bind_some h25
              obtain ⟨he44a, he44b, he44c, he44d⟩ := getI_some he44
              have he44j := he44b; try simp at he44j
              try simp only [Int.toNat_natCast] at he44c he44d
              refine SWp.drawT rfl (hPB _ rfl) [(72, .al (.slot 4) 0 [] none), (73, .ref (.box 1) 1 []), (74, .t (.sl false 5 (List.map (GFn.enc false) p1.Fns))), (75, .t (vi i24)), (76, .rop [vs e43.Name, .sl false 2 (List.map GParam.enc e43.Params), vi e43.Res, vi e43.Body, vi e43.Ret] 0), (77, .rop [vs e43.Name, .sl false 2 (List.map GParam.enc e43.Params), vi e43.Res, vi e43.Body, vi e43.Ret] 4), (78, .t (vi e43.Ret)), (79, .al (.slot 4) 0 [] none), (80, .ref (.box 1) 1 []), (81, .t (.sl false 5 (List.map (GFn.enc false) p1.Fns))), (82, .t (vi i24)), (83, .rop [vs e43.Name, .sl false 2 (List.map GParam.enc e43.Params), vi e43.Res, vi e43.Body, vi e43.Ret] 0), (84, .rop [vs e43.Name, .sl false 2 (List.map GParam.enc e43.Params), vi e43.Res, vi e43.Body, vi e43.Ret] 4), (85, .t (vi e43.Ret)), (86, .ref (.slot 4) 0 [(e43.Ret.toNat, 0)]), (87, .t (vi e44)), (88, .t (vi (IntKind.wrap .i64 (e44 + 1000))))] [[], [], [1], [], [1, 2, 3], [1, 2, 3, 4], [1, 2, 3, 4, 5], [], [], [8], [], [8, 9, 10], [8, 9, 10, 11], [8, 9, 10, 11, 12], [7, 8, 9, 10, 11, 12, 13], [7, 8, 9, 10, 11, 12, 13, 14], [7, 8, 9, 10, 11, 12, 13, 14, 15], [0, 1, 2, 3, 4, 5, 6, 7, 8, 9, 10, 11, 12, 13, 14, 15, 16], [0, 1, 2, 3, 4, 5, 6, 7, 8, 9, 10, 11, 12, 13, 14, 15, 16, 17]] (by simp) (by simp) (by simp [look]) rfl rfl rfl ?_ fun K hK => ?_
              · refine ⟨?_, ?_, ?_, ?_, ?_, ?_, ?_, ?_, ?_, ?_, ?_, ?_, ?_, ?_, ?_, ?_, ?_, trivial⟩
                all_goals (intro τ hbx hb hd hf K hK; try simp [vsAt] at hd; simp [vsAt] at hf; first | (refine wps_cons rfl fun K' hK' => ?_; simp [hN', hbx, hb, hd, hf, he43a, he43b, he43c, he43d, he44a, he44b, he44c, he44d, he44j]; exact hK' _ (wps_nil (hK _ (by simp [vsAt, hbx, he43a, he43b, he43c, he43d, he44a, he44b, he44c, he44d, he44j])))))
              refine wps_cons rfl fun K hK => ?_; simp [hN', he43a, he43b, he43c, he43d, he44a, he44b, he44c, he44d, he44j]; refine hK _ ?_; clear hK
              obtain ⟨l45, hl45, h25⟩ := bindS_some h25
              have hl45f : (List.map vi l38).set e43.Ret.toNat (vi (IntKind.wrap .i64 (e44 + 1000))) = List.map vi l45 := set_map (f := vi) hl45
              try simp only [Int.toNat_natCast] at hl45f
              refine wps_cons rfl fun K hK => ?_; simp [hN', he43a, he43b, he43c, he43d, he44a, he44b, he44c, he44d, he44j, hl45f]; refine hK _ ?_; clear hK
              refine wps_nil (hK _ ?_); clear hK
              show SWp E C _ _ _
              refine SWp.reg rfl (hPB _ rfl) fun K hK => ?_
              iterate 3 (refine wps_cons rfl fun K hK => ?_; simp [hN']; refine hK _ ?_; clear hK)
              refine wps_nil (hK _ ?_); clear hK
              cases h25
              exact ⟨_, [], rfl, by simp [hN']⟩
            · refine SWp.condF' (b := decide (e39.Ret ≥ 0)) (by simp) hb41 ?_
              refine SWp.skip ?_
              show SWp E C _ _ _
              refine SWp.reg rfl (hPB _ rfl) fun K hK => ?_
              iterate 3 (refine wps_cons rfl fun K hK => ?_; simp [hN']; refine hK _ ?_; clear hK)
              refine wps_nil (hK _ ?_); clear hK
              cases h25
              exact ⟨_, [], rfl, by simp [hN']⟩
        · refine SWp.condF' (b := decide (i24 < (p1.Fns.length : Int))) (by simp) hb29 ?_
          refine SWp.exit ?_
          have h46 := congrArg some (ho26 _ (Option.some.inj h25).symm)
          cases h46
          exact hK21 _ _ [] rfl (by simp [hN'])
      subst hv
      obtain ⟨used47, hv⟩ : ∃ y, y = v := ⟨_, rfl⟩
      subst hv
      try dsimp only at h ⊢
      obtain ⟨j50, hj48, h⟩ := bind_some h
      refine SWp.seqC [] [] (fun v : Unit => ⟨[], []⟩) (fun v => j50 = Sum.inl v) (fun v hv => ?_) fun K49 hK49 => ?_
      rotate_left
      · refine SWp.seqR rfl (hPB _ rfl) fun K hK => ?_
        refine wps_cons rfl fun K hK => ?_; simp [hN']; refine hK _ ?_; clear hK
        refine wps_nil (hK _ ?_); clear hK
        refine SWp.block ?_
        refine SWp.loopO [] [4, 6] [] (fun v : Int => ⟨[(4, .t (.sl true 1 (List.map vi used47))), (6, .t (vi v))], []⟩) (spec_ProgramOk_l2 used47) _ 0 hj48 (by simp [hN']) ?_
        intro g s54 h52 ho53
        obtain ⟨i51, hg⟩ : ∃ y, y = g := ⟨_, rfl⟩
        subst hg
        simp only [spec_ProgramOk_l2] at h52
        try dsimp only
        refine SWp.seq ?_
        refine SWp.seqR rfl (hPB _ rfl) fun K hK => ?_
        iterate 4 (refine wps_cons rfl fun K hK => ?_; simp [hN']; refine hK _ ?_; clear hK)
        refine wps_nil (hK _ ?_); clear hK
        rcases ite_or h52 with ⟨hb55, h52⟩ | ⟨hb56, h52⟩
        · refine SWp.condT' (b := decide (i51 < (used47.length : Int))) (by simp) hb55 ?_
          refine SWp.skip ?_
          show SWp E C _ _ _
          refine SWp.seq ?_
          refine SWp.block ?_
          obtain ⟨v62, hj57, h52⟩ := bind_some h52
          refine SWp.seqRC rfl (hPB _ rfl) [4, 6, 107] [] (fun _ : Unit => ⟨[(4, .t (.sl true 1 (List.map vi used47))), (6, .t (vi i51)), (107, .t (vb v62))], []⟩) (fun _ => True) (fun _ _ => ?_) fun K58 hK58 => ?_
          rotate_left
          · refine wps_cons rfl fun K hK => ?_; simp [hN']; refine hK _ ?_; clear hK
            refine wps_cons rfl fun K hK => ?_; simp [hN']; refine hK _ ?_; clear hK
            obtain ⟨e59, he59, hj57⟩ := bind_some hj57
            obtain ⟨he59a, he59b, he59c, he59d⟩ := getI_some he59
            iterate 4 (refine wps_cons rfl fun K hK => ?_; simp [hN', he59a, he59b, he59c, he59d]; refine hK _ ?_; clear hK)
            rcases ite_or hj57 with ⟨hb60, hj57⟩ | ⟨hb61, hj57⟩
            · have hb60s := hb60
              try simp at hb60s
              iterate 6 (refine wps_cons rfl fun K hK => ?_; simp [hN', he59a, he59b, he59c, he59d, hb60, hb60s]; refine hK _ ?_; clear hK)
              refine wps_nil ?_
              cases hj57
              exact hK58 _ () [] trivial (by simp [hN', he59a, he59b, he59c, he59d, hb60, hb60s])
            · have hb61s := hb61
              try simp at hb61s
              iterate 5 (refine wps_off fun K hK => ?_; simp [hN', he59a, he59b, he59c, he59d, hb61, hb61s]; refine hK _ ?_; clear hK)
              refine wps_cons rfl fun K hK => ?_; simp [hN', he59a, he59b, he59c, he59d, hb61, hb61s]; refine hK _ ?_; clear hK
              refine wps_nil ?_
              cases hj57
              exact hK58 _ () [] trivial (by simp [hN', he59a, he59b, he59c, he59d, hb61, hb61s])
          rcases ite_or h52 with ⟨hb63, h52⟩ | ⟨hb64, h52⟩
          · refine SWp.condT' (b := v62) (by simp) hb63 ?_
            refine SWp.seqR rfl (hPB _ rfl) fun K hK => ?_
            refine wps_cons rfl fun K hK => ?_; simp [hN']; refine hK _ ?_; clear hK
            refine wps_nil (hK _ ?_); clear hK
            have h65 := congrArg some (ho53 _ (Option.some.inj h52).symm)
            cases h65
            try dsimp only at h
            cases h
            refine SWp.ret ?_
            simp [thenS, inBlockS, res59]
          · refine SWp.condF' (b := v62) (by simp) hb64 ?_
            refine SWp.skip ?_
            show SWp E C _ _ _
            refine SWp.reg rfl (hPB _ rfl) fun K hK => ?_
            iterate 3 (refine wps_cons rfl fun K hK => ?_; simp [hN']; refine hK _ ?_; clear hK)
            refine wps_nil (hK _ ?_); clear hK
            cases h52
            exact ⟨_, [], rfl, by simp [hN']⟩
        · refine SWp.condF' (b := decide (i51 < (used47.length : Int))) (by simp) hb56 ?_
          refine SWp.exit ?_
          have h66 := congrArg some (ho53 _ (Option.some.inj h52).symm)
          cases h66
          exact hK49 _ _ [] rfl (by simp [hN'])
      subst hv
      obtain ⟨⟩ := v
      try dsimp only at h ⊢
      refine SWp.seqR rfl (hPB _ rfl) fun K hK => ?_
      refine wps_cons rfl fun K hK => ?_; simp [hN']; refine hK _ ?_; clear hK
      refine wps_nil (hK _ ?_); clear hK
      cases h
      refine SWp.ret ?_
      simp [thenS, inBlockS, res59]
end Go.Proofs.T
set_option linter.unusedVariables false
set_option linter.unusedSimpArgs false
set_option maxHeartbeats 1000000
namespace Go.Proofs.T
open Go.OM
theorem res60 : Tryd.f60.results.toList = [.tmp 4] := rfl
theorem ent60 : Enters E.P 60 := enters_of Tryd.func60 (by simp [Tryd.f60]) rfl
theorem spec_KindCount_ok (p1 : GProgram) (kind2 : Int) {r0 : Int} (h : spec_KindCount p1 kind2 = some r0) : Ok E 60 [.val (GProgram.enc false p1), .val (vi kind2)] [vi r0] [] := by
  refine ok_of_body (fn := Tryd.f60) Tryd.func60 rfl (by simp [Tryd.f60]) fun C hN hP => ?_
  have hPB : ∀ l, pinK [] l = true → pinB C.pin l = true := pinB_of (by rw [hP]; rfl)
  have hN' : C.N = 25 := hN
  clear hN
  unfold spec_KindCount at h
  refine SWp.seqR rfl (hPB _ rfl) fun K hK => ?_
  iterate 2 (refine wps_cons rfl fun K hK => ?_; simp [hN']; refine hK _ ?_; clear hK)
  refine wps_nil (hK _ ?_); clear hK
  refine SWp.seqR rfl (hPB _ rfl) fun K hK => ?_
  refine wps_cons rfl fun K hK => ?_; simp [hN']; refine hK _ ?_; clear hK
  refine wps_nil (hK _ ?_); clear hK
  obtain ⟨n17, hj3, h⟩ := bind_some h
  refine SWp.seqC [5] [] (fun _ : Unit => ⟨[(5, .t (vi n17))], []⟩) (fun _ => True) (fun _ _ => ?_) fun K4 hK4 => ?_
  rotate_left
  · refine SWp.seqR rfl (hPB _ rfl) fun K hK => ?_
    refine wps_cons rfl fun K hK => ?_; simp [hN']; refine hK _ ?_; clear hK
    refine wps_nil (hK _ ?_); clear hK
    refine SWp.block ?_
    refine SWp.loopO [] [1, 2, 5, 6] [2] (fun v : Int × Int => ⟨[(1, .t (vi kind2)), (2, .ref (.box 2) 0 []), (5, .t (vi v.1)), (6, .t (vi v.2))], [(2, [.sl false 4 (List.map (GNode.enc false) p1.Nodes), .sl false 5 (List.map (GFn.enc false) p1.Fns)])]⟩) (spec_KindCount_l1 p1 kind2) _ (0, 0) hj3 (by simp [hN']) ?_
    intro g s10 h8 ho9
    obtain ⟨n6, i7⟩ := g
    simp only [spec_KindCount_l1] at h8
    try dsimp only
    refine SWp.seq ?_
    refine SWp.seqR rfl (hPB _ rfl) fun K hK => ?_
    iterate 5 (refine wps_cons rfl fun K hK => ?_; simp [hN']; refine hK _ ?_; clear hK)
    refine wps_nil (hK _ ?_); clear hK
    rcases ite_or h8 with ⟨hb11, h8⟩ | ⟨hb12, h8⟩
    · refine SWp.condT' (b := decide (i7 < (p1.Nodes.length : Int))) (by simp) hb11 ?_
      refine SWp.skip ?_
      show SWp E C _ _ _
      refine SWp.seq ?_
      refine SWp.block ?_
      refine SWp.seqR rfl (hPB _ rfl) fun K hK => ?_
      iterate 3 (refine wps_cons rfl fun K hK => ?_; simp [hN']; refine hK _ ?_; clear hK)
      obtain ⟨e13, he13, h8⟩ := bind_some h8
      obtain ⟨he13a, he13b, he13c, he13d⟩ := getI_some he13
      iterate 5 (refine wps_cons rfl fun K hK => ?_; simp [hN', he13a, he13b, he13c, he13d]; refine hK _ ?_; clear hK)
      refine wps_nil (hK _ ?_); clear hK
      rcases ite_or h8 with ⟨hb14, h8⟩ | ⟨hb15, h8⟩
      · refine SWp.condT' (b := e13.Kind == kind2) (by simp) hb14 ?_
        refine SWp.reg rfl (hPB _ rfl) fun K hK => ?_
        iterate 3 (refine wps_cons rfl fun K hK => ?_; simp [hN']; refine hK _ ?_; clear hK)
        refine wps_nil (hK _ ?_); clear hK
        show SWp E C _ _ _
        refine SWp.reg rfl (hPB _ rfl) fun K hK => ?_
        iterate 3 (refine wps_cons rfl fun K hK => ?_; simp [hN']; refine hK _ ?_; clear hK)
        refine wps_nil (hK _ ?_); clear hK
        cases h8
        exact ⟨_, [], rfl, by simp [hN']⟩
      · refine SWp.condF' (b := e13.Kind == kind2) (by simp) hb15 ?_
        refine SWp.skip ?_
        show SWp E C _ _ _
        refine SWp.reg rfl (hPB _ rfl) fun K hK => ?_
        iterate 3 (refine wps_cons rfl fun K hK => ?_; simp [hN']; refine hK _ ?_; clear hK)
        refine wps_nil (hK _ ?_); clear hK
        cases h8
        exact ⟨_, [], rfl, by simp [hN']⟩
    · refine SWp.condF' (b := decide (i7 < (p1.Nodes.length : Int))) (by simp) hb12 ?_
      refine SWp.exit ?_
      have h16 := congrArg some (ho9 _ (Option.some.inj h8).symm)
      cases h16
      exact hK4 _ () [] trivial (by simp [hN'])
  refine SWp.seqR rfl (hPB _ rfl) fun K hK => ?_
  iterate 2 (refine wps_cons rfl fun K hK => ?_; simp [hN']; refine hK _ ?_; clear hK)
  refine wps_nil (hK _ ?_); clear hK
  cases h
  refine SWp.ret ?_
  simp [thenS, inBlockS, res60]
end Go.Proofs.T
set_option linter.unusedVariables false
set_option linter.unusedSimpArgs false
set_option maxHeartbeats 1000000
namespace Go.Proofs.T
open Go.OM
theorem res63 : Tryd.f63.results.toList = [.tmp 4] := rfl
theorem ent63 : Enters E.P 63 := enters_of Tryd.func63 (by simp [Tryd.f63]) rfl
theorem spec_DeepOf_ok (nodes1 : List GNode) (k2 : Int) {r0 : Int} (h : spec_DeepOf nodes1 k2 = some r0) : Ok E 63 [.val (.sl false 4 (List.map (GNode.enc false) nodes1)), .val (vi k2)] [vi r0] [] := by
  refine ok_of_body (fn := Tryd.f63) Tryd.func63 rfl (by simp [Tryd.f63]) fun C hN hP => ?_
  have hPB : ∀ l, pinK [] l = true → pinB C.pin l = true := pinB_of (by rw [hP]; rfl)
  have hN' : C.N = 17 := hN
  clear hN
  unfold spec_DeepOf at h
  refine SWp.seqR rfl (hPB _ rfl) fun K hK => ?_
  refine wps_cons rfl fun K hK => ?_; simp [hN']; refine hK _ ?_; clear hK
  refine wps_nil (hK _ ?_); clear hK
  refine SWp.seq ?_
  refine SWp.seqR rfl (hPB _ rfl) fun K hK => ?_
  iterate 4 (refine wps_cons rfl fun K hK => ?_; simp [hN']; refine hK _ ?_; clear hK)
  obtain ⟨r3, hc4, h⟩ := bind_some h
  refine wps_call [(.take, .tmp 5), (.take, .const (.int .i64 0)), (.take, .tmp 8)] rfl rfl ent90 (spec_l01In_ok _ _ _ hc4) fun K hK => ?_; simp [hN']; refine hK _ ?_; clear hK
  refine wps_cons rfl fun K hK => ?_; simp [hN']; refine hK _ ?_; clear hK
  refine wps_nil (hK _ ?_); clear hK
  rcases ite_or h with ⟨hb5, h⟩ | ⟨hb6, h⟩
  · refine SWp.condT' (b := !r3) (by simp) hb5 ?_
    refine SWp.seqR rfl (hPB _ rfl) fun K hK => ?_
    refine wps_cons rfl fun K hK => ?_; simp [hN']; refine hK _ ?_; clear hK
    refine wps_nil (hK _ ?_); clear hK
    cases h
    refine SWp.ret ?_
    simp [thenS, inBlockS, res63]
  · refine SWp.condF' (b := !r3) (by simp) hb6 ?_
    refine SWp.skip ?_
    show SWp E C _ _ _
    refine SWp.seqR rfl (hPB _ rfl) fun K hK => ?_
    iterate 2 (refine wps_cons rfl fun K hK => ?_; simp [hN']; refine hK _ ?_; clear hK)
    obtain ⟨r7, hc8, h⟩ := bind_some h
    refine wps_call [(.take, .tmp 11), (.take, .tmp 12)] rfl rfl ent101 (spec_l04Deeps_ok _ _ hc8) fun K hK => ?_; simp [hN']; refine hK _ ?_; clear hK
    refine wps_cons rfl fun K hK => ?_; simp [hN']; refine hK _ ?_; clear hK
    obtain ⟨e9, he9, h⟩ := bind_some h
    obtain ⟨he9a, he9b, he9c, he9d⟩ := getI_some he9
    iterate 3 (refine wps_cons rfl fun K hK => ?_; simp [hN', he9a, he9b, he9c, he9d]; refine hK _ ?_; clear hK)
    refine wps_nil (hK _ ?_); clear hK
    cases h
    refine SWp.ret ?_
    simp [thenS, inBlockS, res63]
end Go.Proofs.T
set_option linter.unusedVariables false
set_option linter.unusedSimpArgs false
set_option maxHeartbeats 1000000
namespace Go.Proofs.T
open Go.OM
theorem res25 : Tryd.f25.results.toList = [.cell 2 47] := rfl
theorem ent25 : Enters E.P 25 := enters_of Tryd.func25 (by simp [Tryd.f25]) rfl
theorem spec_Measured_ok (p1 : GProgram) {r0 : GMeasure} (h : spec_Measured p1 = some r0) : Ok E 25 [.val (GProgram.enc false p1)] [GMeasure.enc r0] [] := by
  refine ok_of_body (fn := Tryd.f25) Tryd.func25 rfl (by simp [Tryd.f25]) fun C hN hP => ?_
  have hPB : ∀ l, pinK [] l = true → pinB C.pin l = true := pinB_of (by rw [hP]; rfl)
  have hN' : C.N = 68 := hN
  clear hN
  unfold spec_Measured at h
  refine SWp.seqR rfl (hPB _ rfl) fun K hK => ?_
  iterate 2 (refine wps_cons rfl fun K hK => ?_; simp [hN']; refine hK _ ?_; clear hK)
  refine wps_nil (hK _ ?_); clear hK
  refine SWp.seq ?_
  refine SWp.seqR rfl (hPB _ rfl) fun K hK => ?_
  refine wps_cons rfl fun K hK => ?_; simp [hN']; refine hK _ ?_; clear hK
  obtain ⟨r2, hc3, h⟩ := bind_some h
  refine wps_call [(.take, .tmp 6)] rfl rfl ent59 (spec_ProgramOk_ok _ hc3) fun K hK => ?_; simp [hN']; refine hK _ ?_; clear hK
  refine wps_cons rfl fun K hK => ?_; simp [hN']; refine hK _ ?_; clear hK
  refine wps_nil (hK _ ?_); clear hK
  rcases ite_or h with ⟨hb4, h⟩ | ⟨hb5, h⟩
  · refine SWp.condT' (b := !r2) (by simp) hb4 ?_
    refine SWp.seqR rfl (hPB _ rfl) fun K hK => ?_
    iterate 2 (refine wps_cons rfl fun K hK => ?_; simp [hN']; refine hK _ ?_; clear hK)
    refine wps_nil (hK _ ?_); clear hK
    cases h
    refine SWp.ret ?_
    simp [thenS, inBlockS, res25]
  · refine SWp.condF' (b := !r2) (by simp) hb5 ?_
    refine SWp.skip ?_
    show SWp E C _ _ _
    refine SWp.seq ?_
    obtain ⟨r6, hc7, h⟩ := bind_some h
    obtain ⟨r8, hc9, h⟩ := bind_some h
    obtain ⟨r10, hc11, h⟩ := bind_some h
    obtain ⟨r12, hc13, h⟩ := bind_some h
    obtain ⟨r14, hc15, h⟩ := bind_some h
    refine SWp.drawY rfl (hPB _ rfl) [(10, .ref (.box 1) 1 []), (11, .t (.sl false 5 (List.map (GFn.enc false) p1.Fns))), (12, .t (vi (p1.Fns.length : Int))), (13, .ref (.box 1) 0 []), (14, .t (.sl false 4 (List.map (GNode.enc false) p1.Nodes))), (15, .t (vi (p1.Nodes.length : Int))), (16, .t (GProgram.enc false p1)), (17, .t (vi r6)), (18, .t (GProgram.enc false p1)), (19, .t (vi r8)), (20, .t (GProgram.enc false p1)), (21, .t (vi r10)), (22, .t (GProgram.enc false p1)), (23, .t (vi r12)), (24, .t (GProgram.enc false p1)), (25, .t (vi r14)), (26, .t (vi (IntKind.wrap .i64 (r12 + r14)))), (27, .t (.agg [vi (p1.Fns.length : Int), vi (p1.Nodes.length : Int), vi 0, vi 0, vi r6, vi r8, vi r10, vi (IntKind.wrap .i64 (r12 + r14)), vi 0])), (3, .ref (.box 3) 0 [])] [[], [], [], [], [], [], [], [], [], [], [], [], [], [], [], [], [], [], [(3, [vi 0, vi 0, vi 0, vi 0, vi 0, vi 0, vi 0, vi 0, vi 0])]] [[], [0], [0, 1], [], [3], [3, 4], [], [6], [], [6, 7, 8], [], [6, 7, 8, 9, 10], [], [6, 7, 8, 9, 10, 11, 12], [], [6, 7, 8, 9, 10, 11, 12, 13, 14], [6, 7, 8, 9, 10, 11, 12, 13, 14, 15], [0, 1, 2, 3, 4, 5, 6, 7, 8, 9, 10, 11, 12, 13, 14, 15, 16], [], [0, 1, 2, 3, 4, 5, 6, 7, 8, 9, 10, 11, 12, 13, 14, 15, 16, 17, 18]] rfl (by simp) (by simp) (by simp [look]) rfl rfl rfl ?_ fun K hK => ?_
    · refine ⟨?_, ?_, ?_, ?_, ?_, ?_, ?_, ?_, ?_, ?_, ?_, ?_, ?_, ?_, ?_, ?_, ?_, ?_, ?_, trivial⟩
      · intro τ D hbx hb hd hf d0 g1 g2 hT
        cases d18 : D 18 <;> (intro K hK; try simp [vsAt] at hd; simp [vsAt] at hf; simp [famX, putX, d0, d18] at hbx; refine wps_cons rfl fun K' hK' => ?_; simp [hN', hbx, hb, hd, hf]; exact hK' _ (wps_nil (hK _ (by simp [vsAt, famX, putX, upd1, hbx, d0, d18]))))
      · intro τ D hbx hb hd hf d1 g1 g2 hT
        cases d18 : D 18 <;> (intro K hK; try simp [vsAt] at hd; simp [vsAt] at hf; simp [famX, putX, d1, d18] at hbx; refine wps_cons rfl fun K' hK' => ?_; simp [hN', hbx, hb, hd, hf]; exact hK' _ (wps_nil (hK _ (by simp [vsAt, famX, putX, upd1, hbx, d1, d18]))))
      · intro τ D hbx hb hd hf d2 g1 g2 hT
        cases d18 : D 18 <;> (intro K hK; try simp [vsAt] at hd; simp [vsAt] at hf; simp [famX, putX, d2, d18] at hbx; refine wps_cons rfl fun K' hK' => ?_; simp [hN', hbx, hb, hd, hf]; exact hK' _ (wps_nil (hK _ (by simp [vsAt, famX, putX, upd1, hbx, d2, d18]))))
      · intro τ D hbx hb hd hf d3 g1 g2 hT
        cases d18 : D 18 <;> (intro K hK; try simp [vsAt] at hd; simp [vsAt] at hf; simp [famX, putX, d3, d18] at hbx; refine wps_cons rfl fun K' hK' => ?_; simp [hN', hbx, hb, hd, hf]; exact hK' _ (wps_nil (hK _ (by simp [vsAt, famX, putX, upd1, hbx, d3, d18]))))
      · intro τ D hbx hb hd hf d4 g1 g2 hT
        cases d18 : D 18 <;> (intro K hK; try simp [vsAt] at hd; simp [vsAt] at hf; simp [famX, putX, d4, d18] at hbx; refine wps_cons rfl fun K' hK' => ?_; simp [hN', hbx, hb, hd, hf]; exact hK' _ (wps_nil (hK _ (by simp [vsAt, famX, putX, upd1, hbx, d4, d18]))))
      · intro τ D hbx hb hd hf d5 g1 g2 hT
        cases d18 : D 18 <;> (intro K hK; try simp [vsAt] at hd; simp [vsAt] at hf; simp [famX, putX, d5, d18] at hbx; refine wps_cons rfl fun K' hK' => ?_; simp [hN', hbx, hb, hd, hf]; exact hK' _ (wps_nil (hK _ (by simp [vsAt, famX, putX, upd1, hbx, d5, d18]))))
      · intro τ D hbx hb hd hf d6 g1 g2 hT
        cases d18 : D 18 <;> (intro K hK; try simp [vsAt] at hd; simp [vsAt] at hf; simp [famX, putX, d6, d18] at hbx; refine wps_cons rfl fun K' hK' => ?_; simp [hN', hbx, hb, hd, hf]; exact hK' _ (wps_nil (hK _ (by simp [vsAt, famX, putX, upd1, hbx, d6, d18]))))
      · intro τ D hbx hb hd hf d7 g1 g2 hT
        cases d18 : D 18 <;> (intro K hK; try simp [vsAt] at hd; simp [vsAt] at hf; simp [famX, putX, d7, d18] at hbx; refine wps_call [(.take, .tmp 16), (.take, .const (.int .i64 20))] rfl rfl ent60 (spec_KindCount_ok _ _ hc7) fun K' hK' => ?_; simp [hN', hbx, hb, hd, hf]; exact hK' _ (wps_nil (hK _ (by simp [vsAt, famX, putX, upd1, hbx, d7, d18]))))
      · intro τ D hbx hb hd hf d8 g1 g2 hT
        cases d18 : D 18 <;> (intro K hK; try simp [vsAt] at hd; simp [vsAt] at hf; simp [famX, putX, d8, d18] at hbx; refine wps_cons rfl fun K' hK' => ?_; simp [hN', hbx, hb, hd, hf]; exact hK' _ (wps_nil (hK _ (by simp [vsAt, famX, putX, upd1, hbx, d8, d18]))))
      · intro τ D hbx hb hd hf d9 g1 g2 hT
        cases d18 : D 18 <;> (intro K hK; try simp [vsAt] at hd; simp [vsAt] at hf; simp [famX, putX, d9, d18] at hbx; refine wps_call [(.take, .tmp 18), (.take, .const (.int .i64 13))] rfl rfl ent60 (spec_KindCount_ok _ _ hc9) fun K' hK' => ?_; simp [hN', hbx, hb, hd, hf]; exact hK' _ (wps_nil (hK _ (by simp [vsAt, famX, putX, upd1, hbx, d9, d18]))))
      · intro τ D hbx hb hd hf d10 g1 g2 hT
        cases d18 : D 18 <;> (intro K hK; try simp [vsAt] at hd; simp [vsAt] at hf; simp [famX, putX, d10, d18] at hbx; refine wps_cons rfl fun K' hK' => ?_; simp [hN', hbx, hb, hd, hf]; exact hK' _ (wps_nil (hK _ (by simp [vsAt, famX, putX, upd1, hbx, d10, d18]))))
      · intro τ D hbx hb hd hf d11 g1 g2 hT
        cases d18 : D 18 <;> (intro K hK; try simp [vsAt] at hd; simp [vsAt] at hf; simp [famX, putX, d11, d18] at hbx; refine wps_call [(.take, .tmp 20), (.take, .const (.int .i64 8))] rfl rfl ent60 (spec_KindCount_ok _ _ hc11) fun K' hK' => ?_; simp [hN', hbx, hb, hd, hf]; exact hK' _ (wps_nil (hK _ (by simp [vsAt, famX, putX, upd1, hbx, d11, d18]))))
      · intro τ D hbx hb hd hf d12 g1 g2 hT
        cases d18 : D 18 <;> (intro K hK; try simp [vsAt] at hd; simp [vsAt] at hf; simp [famX, putX, d12, d18] at hbx; refine wps_cons rfl fun K' hK' => ?_; simp [hN', hbx, hb, hd, hf]; exact hK' _ (wps_nil (hK _ (by simp [vsAt, famX, putX, upd1, hbx, d12, d18]))))
      · intro τ D hbx hb hd hf d13 g1 g2 hT
        cases d18 : D 18 <;> (intro K hK; try simp [vsAt] at hd; simp [vsAt] at hf; simp [famX, putX, d13, d18] at hbx; refine wps_call [(.take, .tmp 22), (.take, .const (.int .i64 5))] rfl rfl ent60 (spec_KindCount_ok _ _ hc13) fun K' hK' => ?_; simp [hN', hbx, hb, hd, hf]; exact hK' _ (wps_nil (hK _ (by simp [vsAt, famX, putX, upd1, hbx, d13, d18]))))
      · intro τ D hbx hb hd hf d14 g1 g2 hT
        cases d18 : D 18 <;> (intro K hK; try simp [vsAt] at hd; simp [vsAt] at hf; simp [famX, putX, d14, d18] at hbx; refine wps_cons rfl fun K' hK' => ?_; simp [hN', hbx, hb, hd, hf]; exact hK' _ (wps_nil (hK _ (by simp [vsAt, famX, putX, upd1, hbx, d14, d18]))))
      · intro τ D hbx hb hd hf d15 g1 g2 hT
        cases d18 : D 18 <;> (intro K hK; try simp [vsAt] at hd; simp [vsAt] at hf; simp [famX, putX, d15, d18] at hbx; refine wps_call [(.take, .tmp 24), (.take, .const (.int .i64 6))] rfl rfl ent60 (spec_KindCount_ok _ _ hc15) fun K' hK' => ?_; simp [hN', hbx, hb, hd, hf]; exact hK' _ (wps_nil (hK _ (by simp [vsAt, famX, putX, upd1, hbx, d15, d18]))))
      · intro τ D hbx hb hd hf d16 g1 g2 hT
        cases d18 : D 18 <;> (intro K hK; try simp [vsAt] at hd; simp [vsAt] at hf; simp [famX, putX, d16, d18] at hbx; refine wps_cons rfl fun K' hK' => ?_; simp [hN', hbx, hb, hd, hf]; exact hK' _ (wps_nil (hK _ (by simp [vsAt, famX, putX, upd1, hbx, d16, d18]))))
      · intro τ D hbx hb hd hf d17 g1 g2 hT
        cases d18 : D 18 <;> (intro K hK; try simp [vsAt] at hd; simp [vsAt] at hf; simp [famX, putX, d17, d18] at hbx; refine wps_cons rfl fun K' hK' => ?_; simp [hN', hbx, hb, hd, hf]; exact hK' _ (wps_nil (hK _ (by simp [vsAt, famX, putX, upd1, hbx, d17, d18]))))
      · intro τ D hbx hb hd hf d18 g1 g2 hT
        have hkl := killAll_id (.box 3) [18] hT rfl rfl (by simp [d18])
        simp only [AV.killAll] at hkl
        (intro K hK; try simp [vsAt] at hd; simp [vsAt] at hf; simp [famX, putX, d18] at hbx; refine wps_cons rfl fun K' hK' => ?_; simp [hN', hbx, hb, hd, hf, hkl]; exact hK' _ (wps_nil (hK _ (by simp [vsAt, famX, putX, upd1, hbx, d18, hkl]))))
    simp [famD, putL, famX, putX]
    refine wps_cons rfl fun K hK => ?_; simp [hN']; refine hK _ ?_; clear hK
    refine wps_nil (hK _ ?_); clear hK
    show SWp E C _ _ _
    obtain ⟨v49, hj16, h⟩ := bind_some h
    refine SWp.seqC [2, 3] [2, 3] (fun _ : Unit => ⟨[(2, .ref (.box 2) 0 []), (3, .ref (.box 3) 0 [])], [(2, [vi 0, vi 0, vi 0, vi 0, vi 0, vi 0, vi 0, vi 0, vi 0]), (3, [vi v49.Fns, vi v49.Nodes, vi v49.Steps, vi v49.Values, vi v49.Blocks, vi v49.Lets, vi v49.News, vi v49.Lends, vi v49.Deep])]⟩) (fun _ => True) (fun _ _ => ?_) fun K17 hK17 => ?_
    rotate_left
    · refine SWp.seqR rfl (hPB _ rfl) fun K hK => ?_
      refine wps_cons rfl fun K hK => ?_; simp [hN']; refine hK _ ?_; clear hK
      refine wps_nil (hK _ ?_); clear hK
      refine SWp.block ?_
      refine SWp.loopO [] [1, 2, 3, 4] [1, 2, 3] (fun v : Int × GMeasure => ⟨[(1, .ref (.box 1) 0 []), (2, .ref (.box 2) 0 []), (3, .ref (.box 3) 0 []), (4, .t (vi v.1))], [(1, [.sl false 4 (List.map (GNode.enc false) p1.Nodes), .sl false 5 (List.map (GFn.enc false) p1.Fns)]), (2, [vi 0, vi 0, vi 0, vi 0, vi 0, vi 0, vi 0, vi 0, vi 0]), (3, [vi v.2.Fns, vi v.2.Nodes, vi v.2.Steps, vi v.2.Values, vi v.2.Blocks, vi v.2.Lets, vi v.2.News, vi v.2.Lends, vi v.2.Deep])]⟩) (spec_Measured_l1 p1) _ (0, (⟨(p1.Fns.length : Int), (p1.Nodes.length : Int), 0, 0, r6, r8, r10, IntKind.wrap .i64 (r12 + r14), 0⟩ : GMeasure)) hj16 (by simp [hN']) ?_
      intro g s23 h21 ho22
      obtain ⟨i19, v20⟩ := g
      simp only [spec_Measured_l1] at h21
      try dsimp only
      refine SWp.seq ?_
      refine SWp.seqR rfl (hPB _ rfl) fun K hK => ?_
      iterate 5 (refine wps_cons rfl fun K hK => ?_; simp [hN']; refine hK _ ?_; clear hK)
      refine wps_nil (hK _ ?_); clear hK
      rcases ite_or h21 with ⟨hb24, h21⟩ | ⟨hb25, h21⟩
      · refine SWp.condT' (b := decide (i19 < (p1.Nodes.length : Int))) (by simp) hb24 ?_
        refine SWp.skip ?_
        show SWp E C _ _ _
        refine SWp.seq ?_
        refine SWp.block ?_
        obtain ⟨v34, hj26, h21⟩ := bind_some h21
        refine SWp.seqC [1, 2, 3, 4] [1, 2, 3] (fun _ : Unit => ⟨[(1, .ref (.box 1) 0 []), (2, .ref (.box 2) 0 []), (3, .ref (.box 3) 0 []), (4, .t (vi i19))], [(1, [.sl false 4 (List.map (GNode.enc false) p1.Nodes), .sl false 5 (List.map (GFn.enc false) p1.Fns)]), (2, [vi 0, vi 0, vi 0, vi 0, vi 0, vi 0, vi 0, vi 0, vi 0]), (3, [vi v34.Fns, vi v34.Nodes, vi v34.Steps, vi v34.Values, vi v34.Blocks, vi v34.Lets, vi v34.News, vi v34.Lends, vi v34.Deep])]⟩) (fun _ => True) (fun _ _ => ?_) fun K27 hK27 => ?_
        rotate_left
        · refine SWp.seqR rfl (hPB _ rfl) fun K hK => ?_
          iterate 3 (refine wps_cons rfl fun K hK => ?_; simp [hN']; refine hK _ ?_; clear hK)
          obtain ⟨e29, he29, hj26⟩ := bind_some hj26
          obtain ⟨he29a, he29b, he29c, he29d⟩ := getI_some he29
          iterate 3 (refine wps_cons rfl fun K hK => ?_; simp [hN', he29a, he29b, he29c, he29d]; refine hK _ ?_; clear hK)
          obtain ⟨r30, hc31, hj26⟩ := bind_some hj26
          refine wps_call [(.take, .tmp 40)] rfl rfl ent61 (spec_l04Value_ok _ hc31) fun K hK => ?_; simp [hN', he29a, he29b, he29c, he29d]; refine hK _ ?_; clear hK
          refine wps_nil (hK _ ?_); clear hK
          rcases ite_or hj26 with ⟨hb32, hj26⟩ | ⟨hb33, hj26⟩
          · refine SWp.condT' (b := r30) (by simp) hb32 ?_
            refine SWp.reg rfl (hPB _ rfl) fun K hK => ?_
            iterate 5 (refine wps_cons rfl fun K hK => ?_; simp [hN']; refine hK _ ?_; clear hK)
            refine wps_nil (hK _ ?_); clear hK
            cases hj26
            exact hK27 _ () [] trivial (by simp [hN'])
          · refine SWp.condF' (b := r30) (by simp) hb33 ?_
            refine SWp.skip ?_
            cases hj26
            exact hK27 _ () [] trivial (by simp [hN'])
        obtain ⟨v43, hj35, h21⟩ := bind_some h21
        refine SWp.seqC [1, 2, 3, 4] [1, 2, 3] (fun _ : Unit => ⟨[(1, .ref (.box 1) 0 []), (2, .ref (.box 2) 0 []), (3, .ref (.box 3) 0 []), (4, .t (vi i19))], [(1, [.sl false 4 (List.map (GNode.enc false) p1.Nodes), .sl false 5 (List.map (GFn.enc false) p1.Fns)]), (2, [vi 0, vi 0, vi 0, vi 0, vi 0, vi 0, vi 0, vi 0, vi 0]), (3, [vi v43.Fns, vi v43.Nodes, vi v43.Steps, vi v43.Values, vi v43.Blocks, vi v43.Lets, vi v43.News, vi v43.Lends, vi v43.Deep])]⟩) (fun _ => True) (fun _ _ => ?_) fun K36 hK36 => ?_
        rotate_left
        · refine SWp.seqR rfl (hPB _ rfl) fun K hK => ?_
          iterate 3 (refine wps_cons rfl fun K hK => ?_; simp [hN']; refine hK _ ?_; clear hK)
          obtain ⟨e38, he38, hj35⟩ := bind_some hj35
          obtain ⟨he38a, he38b, he38c, he38d⟩ := getI_some he38
          iterate 3 (refine wps_cons rfl fun K hK => ?_; simp [hN', he38a, he38b, he38c, he38d]; refine hK _ ?_; clear hK)
          obtain ⟨r39, hc40, hj35⟩ := bind_some hj35
          refine wps_call [(.take, .tmp 51)] rfl rfl ent62 (spec_l04Statement_ok _ hc40) fun K hK => ?_; simp [hN', he38a, he38b, he38c, he38d]; refine hK _ ?_; clear hK
          refine wps_nil (hK _ ?_); clear hK
          rcases ite_or hj35 with ⟨hb41, hj35⟩ | ⟨hb42, hj35⟩
          · refine SWp.condT' (b := r39) (by simp) hb41 ?_
            refine SWp.reg rfl (hPB _ rfl) fun K hK => ?_
            iterate 5 (refine wps_cons rfl fun K hK => ?_; simp [hN']; refine hK _ ?_; clear hK)
            refine wps_nil (hK _ ?_); clear hK
            cases hj35
            exact hK36 _ () [] trivial (by simp [hN'])
          · refine SWp.condF' (b := r39) (by simp) hb42 ?_
            refine SWp.skip ?_
            cases hj35
            exact hK36 _ () [] trivial (by simp [hN'])
        refine SWp.seqR rfl (hPB _ rfl) fun K hK => ?_
        iterate 3 (refine wps_cons rfl fun K hK => ?_; simp [hN']; refine hK _ ?_; clear hK)
        obtain ⟨r44, hc45, h21⟩ := bind_some h21
        refine wps_call [(.take, .tmp 58), (.take, .tmp 59)] rfl rfl ent63 (spec_DeepOf_ok _ _ hc45) fun K hK => ?_; simp [hN']; refine hK _ ?_; clear hK
        refine wps_cons rfl fun K hK => ?_; simp [hN']; refine hK _ ?_; clear hK
        refine wps_nil (hK _ ?_); clear hK
        refine SWp.seqR rfl (hPB _ rfl) fun K hK => ?_
        iterate 4 (refine wps_cons rfl fun K hK => ?_; simp [hN']; refine hK _ ?_; clear hK)
        refine wps_nil (hK _ ?_); clear hK
        rcases ite_or h21 with ⟨hb46, h21⟩ | ⟨hb47, h21⟩
        · refine SWp.condT' (b := decide (r44 > v43.Deep)) (by simp) hb46 ?_
          refine SWp.reg rfl (hPB _ rfl) fun K hK => ?_
          iterate 3 (refine wps_cons rfl fun K hK => ?_; simp [hN']; refine hK _ ?_; clear hK)
          refine wps_nil (hK _ ?_); clear hK
          show SWp E C _ _ _
          refine SWp.reg rfl (hPB _ rfl) fun K hK => ?_
          iterate 3 (refine wps_cons rfl fun K hK => ?_; simp [hN']; refine hK _ ?_; clear hK)
          refine wps_nil (hK _ ?_); clear hK
          cases h21
          exact ⟨_, [], rfl, by simp [hN']⟩
        · refine SWp.condF' (b := decide (r44 > v43.Deep)) (by simp) hb47 ?_
          refine SWp.skip ?_
          show SWp E C _ _ _
          refine SWp.reg rfl (hPB _ rfl) fun K hK => ?_
          iterate 3 (refine wps_cons rfl fun K hK => ?_; simp [hN']; refine hK _ ?_; clear hK)
          refine wps_nil (hK _ ?_); clear hK
          cases h21
          exact ⟨_, [], rfl, by simp [hN']⟩
      · refine SWp.condF' (b := decide (i19 < (p1.Nodes.length : Int))) (by simp) hb25 ?_
        refine SWp.exit ?_
        have h48 := congrArg some (ho22 _ (Option.some.inj h21).symm)
        cases h48
        exact hK17 _ () [] trivial (by simp [hN'])
    refine SWp.seqR rfl (hPB _ rfl) fun K hK => ?_
    iterate 2 (refine wps_cons rfl fun K hK => ?_; simp [hN']; refine hK _ ?_; clear hK)
    refine wps_nil (hK _ ?_); clear hK
    cases h
    refine SWp.ret ?_
    simp [thenS, inBlockS, res25]
end Go.Proofs.T
set_option linter.unusedVariables false
set_option linter.unusedSimpArgs false
set_option maxHeartbeats 1000000
namespace Go.Proofs.T
open Go.OM
theorem res48 : Tryd.f48.results.toList = [.tmp 2] := rfl
theorem ent48 : Enters E.P 48 := enters_of Tryd.func48 (by simp [Tryd.f48]) rfl
theorem laws_toIntS_ok (a1 : List Int) {r0 : List Int} (h : laws_toIntS a1 = some r0) : Ok E 48 [.val (.sl false 1 (List.map vi a1))] [.sl true 1 (List.map vi r0)] [] := by
  refine ok_of_body (fn := Tryd.f48) Tryd.func48 rfl (by simp [Tryd.f48]) fun C hN hP => ?_
  have hPB : ∀ l, pinK [] l = true → pinB C.pin l = true := pinB_of (by rw [hP]; rfl)
  have hN' : C.N = 22 := hN
  clear hN
  unfold laws_toIntS at h
  refine SWp.seqR rfl (hPB _ rfl) fun K hK => ?_
  refine wps_cons rfl fun K hK => ?_; simp [hN']; refine hK _ ?_; clear hK
  refine wps_nil (hK _ ?_); clear hK
  refine SWp.seqR rfl (hPB _ rfl) fun K hK => ?_
  iterate 2 (refine wps_cons rfl fun K hK => ?_; simp [hN']; refine hK _ ?_; clear hK)
  obtain ⟨l2, hl2, h⟩ := bind_some h
  obtain ⟨hl2a, hl2b, hl2c, hl2d⟩ := mkI_some hl2
  have hl2f : List.replicate (a1.length : Int).toNat (vi 0) = List.map vi l2 := rep_map (f := vi) hl2d
  try simp only [Int.toNat_natCast] at hl2f
  iterate 2 (refine wps_cons rfl fun K hK => ?_; simp [hN', hl2a, hl2b, hl2c, hl2f]; refine hK _ ?_; clear hK)
  refine wps_nil (hK _ ?_); clear hK
  obtain ⟨out17, hj3, h⟩ := bind_some h
  refine SWp.seqC [3] [] (fun _ : Unit => ⟨[(3, .t (.sl true 1 (List.map vi out17)))], []⟩) (fun _ => True) (fun _ _ => ?_) fun K4 hK4 => ?_
  rotate_left
  · refine SWp.seqR rfl (hPB _ rfl) fun K hK => ?_
    refine wps_cons rfl fun K hK => ?_; simp [hN']; refine hK _ ?_; clear hK
    refine wps_nil (hK _ ?_); clear hK
    refine SWp.block ?_
    refine SWp.loopO [] [0, 3, 4] [] (fun v : (List Int) × Int => ⟨[(0, .t (.sl false 1 (List.map vi a1))), (3, .t (.sl true 1 (List.map vi v.1))), (4, .t (vi v.2))], []⟩) (laws_toIntS_l1 a1) _ (l2, 0) hj3 (by simp [hN']) ?_
    intro g s10 h8 ho9
    obtain ⟨out6, i7⟩ := g
    simp only [laws_toIntS_l1] at h8
    try dsimp only
    refine SWp.seq ?_
    refine SWp.seqR rfl (hPB _ rfl) fun K hK => ?_
    iterate 4 (refine wps_cons rfl fun K hK => ?_; simp [hN']; refine hK _ ?_; clear hK)
    refine wps_nil (hK _ ?_); clear hK
    rcases ite_or h8 with ⟨hb11, h8⟩ | ⟨hb12, h8⟩
    · refine SWp.condT' (b := decide (i7 < (a1.length : Int))) (by simp) hb11 ?_
      refine SWp.skip ?_
      show SWp E C _ _ _
      refine SWp.seq ?_
      refine SWp.block ?_
      refine SWp.reg rfl (hPB _ rfl) fun K hK => ?_
      iterate 4 (refine wps_cons rfl fun K hK => ?_; simp [hN']; refine hK _ ?_; clear hK)
      obtain ⟨e13, he13, h8⟩ := bind_some h8
      obtain ⟨he13a, he13b, he13c, he13d⟩ := getI_some he13
      iterate 2 (refine wps_cons rfl fun K hK => ?_; simp [hN', he13a, he13b, he13c, he13d]; refine hK _ ?_; clear hK)
      obtain ⟨e14, he14, h8⟩ := bind_some h8
      obtain ⟨he14a, he14b, he14c, he14d⟩ := getI_some he14
      refine wps_cons rfl fun K hK => ?_; simp [hN', he13a, he13b, he13c, he13d, he14a, he14b, he14c, he14d]; refine hK _ ?_; clear hK
      obtain ⟨l15, hl15, h8⟩ := bindS_some h8
      have hl15f : (List.map vi out6).set i7.toNat (vi e13) = List.map vi l15 := set_map (f := vi) hl15
      try simp only [Int.toNat_natCast] at hl15f
      refine wps_cons rfl fun K hK => ?_; simp [hN', he13a, he13b, he13c, he13d, he14a, he14b, he14c, he14d, hl15f]; refine hK _ ?_; clear hK
      refine wps_nil (hK _ ?_); clear hK
      show SWp E C _ _ _
      refine SWp.reg rfl (hPB _ rfl) fun K hK => ?_
      iterate 3 (refine wps_cons rfl fun K hK => ?_; simp [hN']; refine hK _ ?_; clear hK)
      refine wps_nil (hK _ ?_); clear hK
      cases h8
      exact ⟨_, [], rfl, by simp [hN']⟩
    · refine SWp.condF' (b := decide (i7 < (a1.length : Int))) (by simp) hb12 ?_
      refine SWp.exit ?_
      have h16 := congrArg some (ho9 _ (Option.some.inj h8).symm)
      cases h16
      exact hK4 _ () [] trivial (by simp [hN'])
  refine SWp.seqR rfl (hPB _ rfl) fun K hK => ?_
  iterate 2 (refine wps_cons rfl fun K hK => ?_; simp [hN']; refine hK _ ?_; clear hK)
  refine wps_nil (hK _ ?_); clear hK
  cases h
  refine SWp.ret ?_
  simp [thenS, inBlockS, res48]
end Go.Proofs.T
set_option linter.unusedVariables false
set_option linter.unusedSimpArgs false
set_option maxHeartbeats 1000000
namespace Go.Proofs.T
open Go.OM
theorem res104 : Tryd.f104.results.toList = [.cell 2 88] := rfl
theorem ent104 : Enters E.P 104 := enters_of Tryd.func104 (by simp [Tryd.f104]) rfl
theorem laws_toNode_ok (a1 : GNode) {r0 : GNode} (h : laws_toNode a1 = some r0) : Ok E 104 [.val (GNode.enc false a1)] [GNode.enc true r0] [] := by
  refine ok_of_body (fn := Tryd.f104) Tryd.func104 rfl (by simp [Tryd.f104]) fun C hN hP => ?_
  have hPB : ∀ l, pinK [] l = true → pinB C.pin l = true := pinB_of (by rw [hP]; rfl)
  have hN' : C.N = 18 := hN
  clear hN
  unfold laws_toNode at h
  refine SWp.seqR rfl (hPB _ rfl) fun K hK => ?_
  iterate 2 (refine wps_cons rfl fun K hK => ?_; simp [hN']; refine hK _ ?_; clear hK)
  refine wps_nil (hK _ ?_); clear hK
  refine SWp.seqR rfl (hPB _ rfl) fun K hK => ?_
  refine wps_cons rfl fun K hK => ?_; simp [hN']; refine hK _ ?_; clear hK
  refine wps_nil (hK _ ?_); clear hK
  refine SWp.seqR rfl (hPB _ rfl) fun K hK => ?_
  iterate 4 (refine wps_cons rfl fun K hK => ?_; simp [hN']; refine hK _ ?_; clear hK)
  refine wps_nil (hK _ ?_); clear hK
  refine SWp.seqR rfl (hPB _ rfl) fun K hK => ?_
  iterate 4 (refine wps_cons rfl fun K hK => ?_; simp [hN']; refine hK _ ?_; clear hK)
  refine wps_nil (hK _ ?_); clear hK
  refine SWp.seqR rfl (hPB _ rfl) fun K hK => ?_
  iterate 4 (refine wps_cons rfl fun K hK => ?_; simp [hN']; refine hK _ ?_; clear hK)
  refine wps_nil (hK _ ?_); clear hK
  refine SWp.seqR rfl (hPB _ rfl) fun K hK => ?_
  iterate 2 (refine wps_cons rfl fun K hK => ?_; simp [hN']; refine hK _ ?_; clear hK)
  obtain ⟨r2, hc3, h⟩ := bind_some h
  refine wps_call [(.take, .tmp 14)] rfl rfl ent48 (laws_toIntS_ok _ hc3) fun K hK => ?_; simp [hN']; refine hK _ ?_; clear hK
  iterate 2 (refine wps_cons rfl fun K hK => ?_; simp [hN']; refine hK _ ?_; clear hK)
  refine wps_nil (hK _ ?_); clear hK
  refine SWp.seqR rfl (hPB _ rfl) fun K hK => ?_
  iterate 2 (refine wps_cons rfl fun K hK => ?_; simp [hN']; refine hK _ ?_; clear hK)
  refine wps_nil (hK _ ?_); clear hK
  cases h
  refine SWp.ret ?_
  simp [thenS, inBlockS, res104]
end Go.Proofs.T
set_option linter.unusedVariables false
set_option linter.unusedSimpArgs false
set_option maxHeartbeats 1000000
namespace Go.Proofs.T
open Go.OM
theorem res64 : Tryd.f64.results.toList = [.tmp 2] := rfl
theorem ent64 : Enters E.P 64 := enters_of Tryd.func64 (by simp [Tryd.f64]) rfl
theorem laws_toNodeS_ok (a1 : List GNode) {r0 : List GNode} (h : laws_toNodeS a1 = some r0) : Ok E 64 [.val (.sl false 4 (List.map (GNode.enc false) a1))] [.sl true 4 (List.map (GNode.enc true) r0)] [] := by
  refine ok_of_body (fn := Tryd.f64) Tryd.func64 rfl (by simp [Tryd.f64]) fun C hN hP => ?_
  have hPB : ∀ l, pinK [] l = true → pinB C.pin l = true := pinB_of (by rw [hP]; rfl)
  have hN' : C.N = 23 := hN
  clear hN
  unfold laws_toNodeS at h
  refine SWp.seqR rfl (hPB _ rfl) fun K hK => ?_
  refine wps_cons rfl fun K hK => ?_; simp [hN']; refine hK _ ?_; clear hK
  refine wps_nil (hK _ ?_); clear hK
  refine SWp.seqR rfl (hPB _ rfl) fun K hK => ?_
  iterate 2 (refine wps_cons rfl fun K hK => ?_; simp [hN']; refine hK _ ?_; clear hK)
  obtain ⟨l2, hl2, h⟩ := bind_some h
  obtain ⟨hl2a, hl2b, hl2c, hl2d⟩ := mkI_some hl2
  have hl2f : List.replicate (a1.length : Int).toNat (.agg [vi 0, vi 0, vs ByteArray.empty, .sl true 1 []]) = List.map (GNode.enc true) l2 := rep_map (f := (GNode.enc true)) hl2d
  try simp only [Int.toNat_natCast] at hl2f
  iterate 2 (refine wps_cons rfl fun K hK => ?_; simp [hN', hl2a, hl2b, hl2c, hl2f]; refine hK _ ?_; clear hK)
  refine wps_nil (hK _ ?_); clear hK
  obtain ⟨out19, hj3, h⟩ := bind_some h
  refine SWp.seqC [3] [] (fun _ : Unit => ⟨[(3, .t (.sl true 4 (List.map (GNode.enc true) out19)))], []⟩) (fun _ => True) (fun _ _ => ?_) fun K4 hK4 => ?_
  rotate_left
  · refine SWp.seqR rfl (hPB _ rfl) fun K hK => ?_
    refine wps_cons rfl fun K hK => ?_; simp [hN']; refine hK _ ?_; clear hK
    refine wps_nil (hK _ ?_); clear hK
    refine SWp.block ?_
    refine SWp.loopO [] [0, 3, 4] [] (fun v : (List GNode) × Int => ⟨[(0, .t (.sl false 4 (List.map (GNode.enc false) a1))), (3, .t (.sl true 4 (List.map (GNode.enc true) v.1))), (4, .t (vi v.2))], []⟩) (laws_toNodeS_l1 a1) _ (l2, 0) hj3 (by simp [hN']) ?_
    intro g s10 h8 ho9
    obtain ⟨out6, i7⟩ := g
    simp only [laws_toNodeS_l1] at h8
    try dsimp only
    refine SWp.seq ?_
    refine SWp.seqR rfl (hPB _ rfl) fun K hK => ?_
    iterate 4 (refine wps_cons rfl fun K hK => ?_; simp [hN']; refine hK _ ?_; clear hK)
    refine wps_nil (hK _ ?_); clear hK
    rcases ite_or h8 with ⟨hb11, h8⟩ | ⟨hb12, h8⟩
    · refine SWp.condT' (b := decide (i7 < (a1.length : Int))) (by simp) hb11 ?_
      refine SWp.skip ?_
      show SWp E C _ _ _
      refine SWp.seq ?_
      refine SWp.block ?_
      refine SWp.reg rfl (hPB _ rfl) fun K hK => ?_
      iterate 4 (refine wps_cons rfl fun K hK => ?_; simp [hN']; refine hK _ ?_; clear hK)
      obtain ⟨e13, he13, h8⟩ := bind_some h8
      obtain ⟨he13a, he13b, he13c, he13d⟩ := getI_some he13
      iterate 2 (refine wps_cons rfl fun K hK => ?_; simp [hN', he13a, he13b, he13c, he13d]; refine hK _ ?_; clear hK)
      obtain ⟨r14, hc15, h8⟩ := bind_some h8
      refine wps_call [(.take, .tmp 19)] rfl rfl ent104 (laws_toNode_ok _ hc15) fun K hK => ?_; simp [hN', he13a, he13b, he13c, he13d]; refine hK _ ?_; clear hK
      obtain ⟨e16, he16, h8⟩ := bind_some h8
      obtain ⟨he16a, he16b, he16c, he16d⟩ := getI_some he16
      refine wps_cons rfl fun K hK => ?_; simp [hN', he13a, he13b, he13c, he13d, he16a, he16b, he16c, he16d]; refine hK _ ?_; clear hK
      obtain ⟨l17, hl17, h8⟩ := bindS_some h8
      have hl17f : (List.map (GNode.enc true) out6).set i7.toNat (.agg [vi r14.Kind, vi r14.Num, vs r14.Name, .sl true 1 (List.map vi r14.Kids)]) = List.map (GNode.enc true) l17 := set_map (f := (GNode.enc true)) hl17
      try simp only [Int.toNat_natCast] at hl17f
      refine wps_cons rfl fun K hK => ?_; simp [hN', he13a, he13b, he13c, he13d, he16a, he16b, he16c, he16d, hl17f]; refine hK _ ?_; clear hK
      refine wps_nil (hK _ ?_); clear hK
      show SWp E C _ _ _
      refine SWp.reg rfl (hPB _ rfl) fun K hK => ?_
      iterate 3 (refine wps_cons rfl fun K hK => ?_; simp [hN']; refine hK _ ?_; clear hK)
      refine wps_nil (hK _ ?_); clear hK
      cases h8
      exact ⟨_, [], rfl, by simp [hN']⟩
    · refine SWp.condF' (b := decide (i7 < (a1.length : Int))) (by simp) hb12 ?_
      refine SWp.exit ?_
      have h18 := congrArg some (ho9 _ (Option.some.inj h8).symm)
      cases h18
      exact hK4 _ () [] trivial (by simp [hN'])
  refine SWp.seqR rfl (hPB _ rfl) fun K hK => ?_
  iterate 2 (refine wps_cons rfl fun K hK => ?_; simp [hN']; refine hK _ ?_; clear hK)
  refine wps_nil (hK _ ?_); clear hK
  cases h
  refine SWp.ret ?_
  simp [thenS, inBlockS, res64]
end Go.Proofs.T
set_option linter.unusedVariables false
set_option linter.unusedSimpArgs false
set_option maxHeartbeats 1000000
namespace Go.Proofs.T
open Go.OM
theorem res153 : Tryd.f153.results.toList = [.cell 2 148] := rfl
theorem ent153 : Enters E.P 153 := enters_of Tryd.func153 (by simp [Tryd.f153]) rfl
theorem laws_toParam_ok (a1 : GParam) {r0 : GParam} (h : laws_toParam a1 = some r0) : Ok E 153 [.val (GParam.enc a1)] [GParam.enc r0] [] := by
  refine ok_of_body (fn := Tryd.f153) Tryd.func153 rfl (by simp [Tryd.f153]) fun C hN hP => ?_
  have hPB : ∀ l, pinK [] l = true → pinB C.pin l = true := pinB_of (by rw [hP]; rfl)
  have hN' : C.N = 11 := hN
  clear hN
  unfold laws_toParam at h
  refine SWp.seqR rfl (hPB _ rfl) fun K hK => ?_
  iterate 2 (refine wps_cons rfl fun K hK => ?_; simp [hN']; refine hK _ ?_; clear hK)
  refine wps_nil (hK _ ?_); clear hK
  refine SWp.seqR rfl (hPB _ rfl) fun K hK => ?_
  refine wps_cons rfl fun K hK => ?_; simp [hN']; refine hK _ ?_; clear hK
  refine wps_nil (hK _ ?_); clear hK
  refine SWp.seqR rfl (hPB _ rfl) fun K hK => ?_
  iterate 4 (refine wps_cons rfl fun K hK => ?_; simp [hN']; refine hK _ ?_; clear hK)
  refine wps_nil (hK _ ?_); clear hK
  refine SWp.seqR rfl (hPB _ rfl) fun K hK => ?_
  iterate 4 (refine wps_cons rfl fun K hK => ?_; simp [hN']; refine hK _ ?_; clear hK)
  refine wps_nil (hK _ ?_); clear hK
  refine SWp.seqR rfl (hPB _ rfl) fun K hK => ?_
  iterate 2 (refine wps_cons rfl fun K hK => ?_; simp [hN']; refine hK _ ?_; clear hK)
  refine wps_nil (hK _ ?_); clear hK
  cases h
  refine SWp.ret ?_
  simp [thenS, inBlockS, res153]
end Go.Proofs.T
set_option linter.unusedVariables false
set_option linter.unusedSimpArgs false
set_option maxHeartbeats 1000000
namespace Go.Proofs.T
open Go.OM
theorem res129 : Tryd.f129.results.toList = [.tmp 2] := rfl
theorem ent129 : Enters E.P 129 := enters_of Tryd.func129 (by simp [Tryd.f129]) rfl
theorem laws_toParamS_ok (a1 : List GParam) {r0 : List GParam} (h : laws_toParamS a1 = some r0) : Ok E 129 [.val (.sl false 2 (List.map GParam.enc a1))] [.sl true 2 (List.map GParam.enc r0)] [] := by
  refine ok_of_body (fn := Tryd.f129) Tryd.func129 rfl (by simp [Tryd.f129]) fun C hN hP => ?_
  have hPB : ∀ l, pinK [] l = true → pinB C.pin l = true := pinB_of (by rw [hP]; rfl)
  have hN' : C.N = 23 := hN
  clear hN
  unfold laws_toParamS at h
  refine SWp.seqR rfl (hPB _ rfl) fun K hK => ?_
  refine wps_cons rfl fun K hK => ?_; simp [hN']; refine hK _ ?_; clear hK
  refine wps_nil (hK _ ?_); clear hK
  refine SWp.seqR rfl (hPB _ rfl) fun K hK => ?_
  iterate 2 (refine wps_cons rfl fun K hK => ?_; simp [hN']; refine hK _ ?_; clear hK)
  obtain ⟨l2, hl2, h⟩ := bind_some h
  obtain ⟨hl2a, hl2b, hl2c, hl2d⟩ := mkI_some hl2
  have hl2f : List.replicate (a1.length : Int).toNat (.agg [vs ByteArray.empty, vi 0]) = List.map GParam.enc l2 := rep_map (f := GParam.enc) hl2d
  try simp only [Int.toNat_natCast] at hl2f
  iterate 2 (refine wps_cons rfl fun K hK => ?_; simp [hN', hl2a, hl2b, hl2c, hl2f]; refine hK _ ?_; clear hK)
  refine wps_nil (hK _ ?_); clear hK
  obtain ⟨out19, hj3, h⟩ := bind_some h
  refine SWp.seqC [3] [] (fun _ : Unit => ⟨[(3, .t (.sl true 2 (List.map GParam.enc out19)))], []⟩) (fun _ => True) (fun _ _ => ?_) fun K4 hK4 => ?_
  rotate_left
  · refine SWp.seqR rfl (hPB _ rfl) fun K hK => ?_
    refine wps_cons rfl fun K hK => ?_; simp [hN']; refine hK _ ?_; clear hK
    refine wps_nil (hK _ ?_); clear hK
    refine SWp.block ?_
    refine SWp.loopO [] [0, 3, 4] [] (fun v : (List GParam) × Int => ⟨[(0, .t (.sl false 2 (List.map GParam.enc a1))), (3, .t (.sl true 2 (List.map GParam.enc v.1))), (4, .t (vi v.2))], []⟩) (laws_toParamS_l1 a1) _ (l2, 0) hj3 (by simp [hN']) ?_
    intro g s10 h8 ho9
    obtain ⟨out6, i7⟩ := g
    simp only [laws_toParamS_l1] at h8
    try dsimp only
    refine SWp.seq ?_
    refine SWp.seqR rfl (hPB _ rfl) fun K hK => ?_
    iterate 4 (refine wps_cons rfl fun K hK => ?_; simp [hN']; refine hK _ ?_; clear hK)
    refine wps_nil (hK _ ?_); clear hK
    rcases ite_or h8 with ⟨hb11, h8⟩ | ⟨hb12, h8⟩
    · refine SWp.condT' (b := decide (i7 < (a1.length : Int))) (by simp) hb11 ?_
      refine SWp.skip ?_
      show SWp E C _ _ _
      refine SWp.seq ?_
      refine SWp.block ?_
      refine SWp.reg rfl (hPB _ rfl) fun K hK => ?_
      iterate 4 (refine wps_cons rfl fun K hK => ?_; simp [hN']; refine hK _ ?_; clear hK)
      obtain ⟨e13, he13, h8⟩ := bind_some h8
      obtain ⟨he13a, he13b, he13c, he13d⟩ := getI_some he13
      iterate 2 (refine wps_cons rfl fun K hK => ?_; simp [hN', he13a, he13b, he13c, he13d]; refine hK _ ?_; clear hK)
      obtain ⟨r14, hc15, h8⟩ := bind_some h8
      refine wps_call [(.take, .tmp 19)] rfl rfl ent153 (laws_toParam_ok _ hc15) fun K hK => ?_; simp [hN', he13a, he13b, he13c, he13d]; refine hK _ ?_; clear hK
      obtain ⟨e16, he16, h8⟩ := bind_some h8
      obtain ⟨he16a, he16b, he16c, he16d⟩ := getI_some he16
      refine wps_cons rfl fun K hK => ?_; simp [hN', he13a, he13b, he13c, he13d, he16a, he16b, he16c, he16d]; refine hK _ ?_; clear hK
      obtain ⟨l17, hl17, h8⟩ := bindS_some h8
      have hl17f : (List.map GParam.enc out6).set i7.toNat (.agg [vs r14.Name, vi r14.Typ]) = List.map GParam.enc l17 := set_map (f := GParam.enc) hl17
      try simp only [Int.toNat_natCast] at hl17f
      refine wps_cons rfl fun K hK => ?_; simp [hN', he13a, he13b, he13c, he13d, he16a, he16b, he16c, he16d, hl17f]; refine hK _ ?_; clear hK
      refine wps_nil (hK _ ?_); clear hK
      show SWp E C _ _ _
      refine SWp.reg rfl (hPB _ rfl) fun K hK => ?_
      iterate 3 (refine wps_cons rfl fun K hK => ?_; simp [hN']; refine hK _ ?_; clear hK)
      refine wps_nil (hK _ ?_); clear hK
      cases h8
      exact ⟨_, [], rfl, by simp [hN']⟩
    · refine SWp.condF' (b := decide (i7 < (a1.length : Int))) (by simp) hb12 ?_
      refine SWp.exit ?_
      have h18 := congrArg some (ho9 _ (Option.some.inj h8).symm)
      cases h18
      exact hK4 _ () [] trivial (by simp [hN'])
  refine SWp.seqR rfl (hPB _ rfl) fun K hK => ?_
  iterate 2 (refine wps_cons rfl fun K hK => ?_; simp [hN']; refine hK _ ?_; clear hK)
  refine wps_nil (hK _ ?_); clear hK
  cases h
  refine SWp.ret ?_
  simp [thenS, inBlockS, res129]
end Go.Proofs.T
set_option linter.unusedVariables false
set_option linter.unusedSimpArgs false
set_option maxHeartbeats 1000000
namespace Go.Proofs.T
open Go.OM
theorem res105 : Tryd.f105.results.toList = [.cell 2 128] := rfl
theorem ent105 : Enters E.P 105 := enters_of Tryd.func105 (by simp [Tryd.f105]) rfl
theorem laws_toFn_ok (a1 : GFn) {r0 : GFn} (h : laws_toFn a1 = some r0) : Ok E 105 [.val (GFn.enc false a1)] [GFn.enc true r0] [] := by
  refine ok_of_body (fn := Tryd.f105) Tryd.func105 rfl (by simp [Tryd.f105]) fun C hN hP => ?_
  have hPB : ∀ l, pinK [] l = true → pinB C.pin l = true := pinB_of (by rw [hP]; rfl)
  have hN' : C.N = 21 := hN
  clear hN
  unfold laws_toFn at h
  refine SWp.seqR rfl (hPB _ rfl) fun K hK => ?_
  iterate 2 (refine wps_cons rfl fun K hK => ?_; simp [hN']; refine hK _ ?_; clear hK)
  refine wps_nil (hK _ ?_); clear hK
  refine SWp.seqR rfl (hPB _ rfl) fun K hK => ?_
  refine wps_cons rfl fun K hK => ?_; simp [hN']; refine hK _ ?_; clear hK
  refine wps_nil (hK _ ?_); clear hK
  refine SWp.seqR rfl (hPB _ rfl) fun K hK => ?_
  iterate 4 (refine wps_cons rfl fun K hK => ?_; simp [hN']; refine hK _ ?_; clear hK)
  refine wps_nil (hK _ ?_); clear hK
  refine SWp.seqR rfl (hPB _ rfl) fun K hK => ?_
  iterate 2 (refine wps_cons rfl fun K hK => ?_; simp [hN']; refine hK _ ?_; clear hK)
  obtain ⟨r2, hc3, h⟩ := bind_some h
  refine wps_call [(.take, .tmp 8)] rfl rfl ent129 (laws_toParamS_ok _ hc3) fun K hK => ?_; simp [hN']; refine hK _ ?_; clear hK
  iterate 2 (refine wps_cons rfl fun K hK => ?_; simp [hN']; refine hK _ ?_; clear hK)
  refine wps_nil (hK _ ?_); clear hK
  refine SWp.seqR rfl (hPB _ rfl) fun K hK => ?_
  iterate 4 (refine wps_cons rfl fun K hK => ?_; simp [hN']; refine hK _ ?_; clear hK)
  refine wps_nil (hK _ ?_); clear hK
  refine SWp.seqR rfl (hPB _ rfl) fun K hK => ?_
  iterate 4 (refine wps_cons rfl fun K hK => ?_; simp [hN']; refine hK _ ?_; clear hK)
  refine wps_nil (hK _ ?_); clear hK
  refine SWp.seqR rfl (hPB _ rfl) fun K hK => ?_
  iterate 4 (refine wps_cons rfl fun K hK => ?_; simp [hN']; refine hK _ ?_; clear hK)
  refine wps_nil (hK _ ?_); clear hK
  refine SWp.seqR rfl (hPB _ rfl) fun K hK => ?_
  iterate 2 (refine wps_cons rfl fun K hK => ?_; simp [hN']; refine hK _ ?_; clear hK)
  refine wps_nil (hK _ ?_); clear hK
  cases h
  refine SWp.ret ?_
  simp [thenS, inBlockS, res105]
end Go.Proofs.T
set_option linter.unusedVariables false
set_option linter.unusedSimpArgs false
set_option maxHeartbeats 1000000
namespace Go.Proofs.T
open Go.OM
theorem res65 : Tryd.f65.results.toList = [.tmp 2] := rfl
theorem ent65 : Enters E.P 65 := enters_of Tryd.func65 (by simp [Tryd.f65]) rfl
theorem laws_toFnS_ok (a1 : List GFn) {r0 : List GFn} (h : laws_toFnS a1 = some r0) : Ok E 65 [.val (.sl false 5 (List.map (GFn.enc false) a1))] [.sl true 5 (List.map (GFn.enc true) r0)] [] := by
  refine ok_of_body (fn := Tryd.f65) Tryd.func65 rfl (by simp [Tryd.f65]) fun C hN hP => ?_
  have hPB : ∀ l, pinK [] l = true → pinB C.pin l = true := pinB_of (by rw [hP]; rfl)
  have hN' : C.N = 23 := hN
  clear hN
  unfold laws_toFnS at h
  refine SWp.seqR rfl (hPB _ rfl) fun K hK => ?_
  refine wps_cons rfl fun K hK => ?_; simp [hN']; refine hK _ ?_; clear hK
  refine wps_nil (hK _ ?_); clear hK
  refine SWp.seqR rfl (hPB _ rfl) fun K hK => ?_
  iterate 2 (refine wps_cons rfl fun K hK => ?_; simp [hN']; refine hK _ ?_; clear hK)
  obtain ⟨l2, hl2, h⟩ := bind_some h
  obtain ⟨hl2a, hl2b, hl2c, hl2d⟩ := mkI_some hl2
  have hl2f : List.replicate (a1.length : Int).toNat (.agg [vs ByteArray.empty, .sl true 2 [], vi 0, vi 0, vi 0]) = List.map (GFn.enc true) l2 := rep_map (f := (GFn.enc true)) hl2d
  try simp only [Int.toNat_natCast] at hl2f
  iterate 2 (refine wps_cons rfl fun K hK => ?_; simp [hN', hl2a, hl2b, hl2c, hl2f]; refine hK _ ?_; clear hK)
  refine wps_nil (hK _ ?_); clear hK
  obtain ⟨out19, hj3, h⟩ := bind_some h
  refine SWp.seqC [3] [] (fun _ : Unit => ⟨[(3, .t (.sl true 5 (List.map (GFn.enc true) out19)))], []⟩) (fun _ => True) (fun _ _ => ?_) fun K4 hK4 => ?_
  rotate_left
  · refine SWp.seqR rfl (hPB _ rfl) fun K hK => ?_
    refine wps_cons rfl fun K hK => ?_; simp [hN']; refine hK _ ?_; clear hK
    refine wps_nil (hK _ ?_); clear hK
    refine SWp.block ?_
    refine SWp.loopO [] [0, 3, 4] [] (fun v : (List GFn) × Int => ⟨[(0, .t (.sl false 5 (List.map (GFn.enc false) a1))), (3, .t (.sl true 5 (List.map (GFn.enc true) v.1))), (4, .t (vi v.2))], []⟩) (laws_toFnS_l1 a1) _ (l2, 0) hj3 (by simp [hN']) ?_
    intro g s10 h8 ho9
    obtain ⟨out6, i7⟩ := g
    simp only [laws_toFnS_l1] at h8
    try dsimp only
    refine SWp.seq ?_
    refine SWp.seqR rfl (hPB _ rfl) fun K hK => ?_
    iterate 4 (refine wps_cons rfl fun K hK => ?_; simp [hN']; refine hK _ ?_; clear hK)
    refine wps_nil (hK _ ?_); clear hK
    rcases ite_or h8 with ⟨hb11, h8⟩ | ⟨hb12, h8⟩
    · refine SWp.condT' (b := decide (i7 < (a1.length : Int))) (by simp) hb11 ?_
      refine SWp.skip ?_
      show SWp E C _ _ _
      refine SWp.seq ?_
      refine SWp.block ?_
      refine SWp.reg rfl (hPB _ rfl) fun K hK => ?_
      iterate 4 (refine wps_cons rfl fun K hK => ?_; simp [hN']; refine hK _ ?_; clear hK)
      obtain ⟨e13, he13, h8⟩ := bind_some h8
      obtain ⟨he13a, he13b, he13c, he13d⟩ := getI_some he13
      iterate 2 (refine wps_cons rfl fun K hK => ?_; simp [hN', he13a, he13b, he13c, he13d]; refine hK _ ?_; clear hK)
      obtain ⟨r14, hc15, h8⟩ := bind_some h8
      refine wps_call [(.take, .tmp 19)] rfl rfl ent105 (laws_toFn_ok _ hc15) fun K hK => ?_; simp [hN', he13a, he13b, he13c, he13d]; refine hK _ ?_; clear hK
      obtain ⟨e16, he16, h8⟩ := bind_some h8
      obtain ⟨he16a, he16b, he16c, he16d⟩ := getI_some he16
      refine wps_cons rfl fun K hK => ?_; simp [hN', he13a, he13b, he13c, he13d, he16a, he16b, he16c, he16d]; refine hK _ ?_; clear hK
      obtain ⟨l17, hl17, h8⟩ := bindS_some h8
      have hl17f : (List.map (GFn.enc true) out6).set i7.toNat (.agg [vs r14.Name, .sl true 2 (List.map GParam.enc r14.Params), vi r14.Res, vi r14.Body, vi r14.Ret]) = List.map (GFn.enc true) l17 := set_map (f := (GFn.enc true)) hl17
      try simp only [Int.toNat_natCast] at hl17f
      refine wps_cons rfl fun K hK => ?_; simp [hN', he13a, he13b, he13c, he13d, he16a, he16b, he16c, he16d, hl17f]; refine hK _ ?_; clear hK
      refine wps_nil (hK _ ?_); clear hK
      show SWp E C _ _ _
      refine SWp.reg rfl (hPB _ rfl) fun K hK => ?_
      iterate 3 (refine wps_cons rfl fun K hK => ?_; simp [hN']; refine hK _ ?_; clear hK)
      refine wps_nil (hK _ ?_); clear hK
      cases h8
      exact ⟨_, [], rfl, by simp [hN']⟩
    · refine SWp.condF' (b := decide (i7 < (a1.length : Int))) (by simp) hb12 ?_
      refine SWp.exit ?_
      have h18 := congrArg some (ho9 _ (Option.some.inj h8).symm)
      cases h18
      exact hK4 _ () [] trivial (by simp [hN'])
  refine SWp.seqR rfl (hPB _ rfl) fun K hK => ?_
  iterate 2 (refine wps_cons rfl fun K hK => ?_; simp [hN']; refine hK _ ?_; clear hK)
  refine wps_nil (hK _ ?_); clear hK
  cases h
  refine SWp.ret ?_
  simp [thenS, inBlockS, res65]
end Go.Proofs.T
set_option linter.unusedVariables false
set_option linter.unusedSimpArgs false
set_option maxHeartbeats 1000000
namespace Go.Proofs.T
open Go.OM
theorem res26 : Tryd.f26.results.toList = [.cell 2 52] := rfl
theorem ent26 : Enters E.P 26 := enters_of Tryd.func26 (by simp [Tryd.f26]) rfl
theorem laws_toProgram_ok (a1 : GProgram) {r0 : GProgram} (h : laws_toProgram a1 = some r0) : Ok E 26 [.val (GProgram.enc false a1)] [GProgram.enc true r0] [] := by
  refine ok_of_body (fn := Tryd.f26) Tryd.func26 rfl (by simp [Tryd.f26]) fun C hN hP => ?_
  have hPB : ∀ l, pinK [] l = true → pinB C.pin l = true := pinB_of (by rw [hP]; rfl)
  have hN' : C.N = 13 := hN
  clear hN
  unfold laws_toProgram at h
  refine SWp.seqR rfl (hPB _ rfl) fun K hK => ?_
  iterate 2 (refine wps_cons rfl fun K hK => ?_; simp [hN']; refine hK _ ?_; clear hK)
  refine wps_nil (hK _ ?_); clear hK
  refine SWp.seqR rfl (hPB _ rfl) fun K hK => ?_
  refine wps_cons rfl fun K hK => ?_; simp [hN']; refine hK _ ?_; clear hK
  refine wps_nil (hK _ ?_); clear hK
  refine SWp.seqR rfl (hPB _ rfl) fun K hK => ?_
  iterate 2 (refine wps_cons rfl fun K hK => ?_; simp [hN']; refine hK _ ?_; clear hK)
  obtain ⟨r2, hc3, h⟩ := bind_some h
  refine wps_call [(.take, .tmp 5)] rfl rfl ent64 (laws_toNodeS_ok _ hc3) fun K hK => ?_; simp [hN']; refine hK _ ?_; clear hK
  iterate 2 (refine wps_cons rfl fun K hK => ?_; simp [hN']; refine hK _ ?_; clear hK)
  refine wps_nil (hK _ ?_); clear hK
  refine SWp.seqR rfl (hPB _ rfl) fun K hK => ?_
  iterate 2 (refine wps_cons rfl fun K hK => ?_; simp [hN']; refine hK _ ?_; clear hK)
  obtain ⟨r4, hc5, h⟩ := bind_some h
  refine wps_call [(.take, .tmp 9)] rfl rfl ent65 (laws_toFnS_ok _ hc5) fun K hK => ?_; simp [hN']; refine hK _ ?_; clear hK
  iterate 2 (refine wps_cons rfl fun K hK => ?_; simp [hN']; refine hK _ ?_; clear hK)
  refine wps_nil (hK _ ?_); clear hK
  refine SWp.seqR rfl (hPB _ rfl) fun K hK => ?_
  iterate 2 (refine wps_cons rfl fun K hK => ?_; simp [hN']; refine hK _ ?_; clear hK)
  refine wps_nil (hK _ ?_); clear hK
  cases h
  refine SWp.ret ?_
  simp [thenS, inBlockS, res26]
end Go.Proofs.T
set_option linter.unusedVariables false
set_option linter.unusedSimpArgs false
set_option maxHeartbeats 1000000
namespace Go.Proofs.T
open Go.OM
theorem res91 : Tryd.f91.results.toList = [.tmp 6] := rfl
theorem ent91 : Enters E.P 91 := enters_of Tryd.func91 (by simp [Tryd.f91]) rfl
theorem impl_in_ok (n1 : Int) (low2 : Int) (high3 : Int) {r0 : Bool} (h : impl_in n1 low2 high3 = some r0) : Ok E 91 [.val (vi n1), .val (vi low2), .val (vi high3)] [vb r0] [] := by
  refine ok_of_body (fn := Tryd.f91) Tryd.func91 rfl (by simp [Tryd.f91]) fun C hN hP => ?_
  have hPB : ∀ l, pinK [] l = true → pinB C.pin l = true := pinB_of (by rw [hP]; rfl)
  have hN' : C.N = 15 := hN
  clear hN
  unfold impl_in at h
  refine SWp.seqR rfl (hPB _ rfl) fun K hK => ?_
  refine wps_cons rfl fun K hK => ?_; simp [hN']; refine hK _ ?_; clear hK
  refine wps_nil (hK _ ?_); clear hK
  obtain ⟨v8, hj4, h⟩ := bind_some h
  refine SWp.seqRC rfl (hPB _ rfl) [6] [] (fun _ : Unit => ⟨[(6, .t (vb v8))], []⟩) (fun _ => True) (fun _ _ => ?_) fun K5 hK5 => ?_
  rotate_left
  · refine wps_cons rfl fun K hK => ?_; simp [hN']; refine hK _ ?_; clear hK
    iterate 3 (refine wps_cons rfl fun K hK => ?_; simp [hN']; refine hK _ ?_; clear hK)
    rcases ite_or hj4 with ⟨hb6, hj4⟩ | ⟨hb7, hj4⟩
    · have hb6s := hb6
      try simp at hb6s
      iterate 5 (refine wps_cons rfl fun K hK => ?_; simp [hN', hb6, hb6s]; refine hK _ ?_; clear hK)
      refine wps_nil ?_
      cases hj4
      exact hK5 _ () [] trivial (by simp [hN', hb6, hb6s])
    · have hb7s := hb7
      try simp at hb7s
      iterate 3 (refine wps_off fun K hK => ?_; simp [hN', hb7, hb7s]; refine hK _ ?_; clear hK)
      iterate 2 (refine wps_cons rfl fun K hK => ?_; simp [hN', hb7, hb7s]; refine hK _ ?_; clear hK)
      refine wps_nil ?_
      cases hj4
      exact hK5 _ () [] trivial (by simp [hN', hb7, hb7s])
  cases h
  refine SWp.ret ?_
  simp [thenS, inBlockS, res91]
end Go.Proofs.T
set_option linter.unusedVariables false
set_option linter.unusedSimpArgs false
set_option maxHeartbeats 1000000
namespace Go.Proofs.T
open Go.OM
theorem res52 : Tryd.f52.results.toList = [.tmp 4] := rfl
theorem ent52 : Enters E.P 52 := enters_of Tryd.func52 (by simp [Tryd.f52]) rfl
theorem impl_hasInt_ok (l1 : List Int) (n2 : Int) {r0 : Bool} (h : impl_hasInt l1 n2 = some r0) : Ok E 52 [.val (.sl false 1 (List.map vi l1)), .val (vi n2)] [vb r0] [] := by
  refine ok_of_body (fn := Tryd.f52) Tryd.func52 rfl (by simp [Tryd.f52]) fun C hN hP => ?_
  have hPB : ∀ l, pinK [] l = true → pinB C.pin l = true := pinB_of (by rw [hP]; rfl)
  have hN' : C.N = 17 := hN
  clear hN
  unfold impl_hasInt at h
  refine SWp.seqR rfl (hPB _ rfl) fun K hK => ?_
  refine wps_cons rfl fun K hK => ?_; simp [hN']; refine hK _ ?_; clear hK
  refine wps_nil (hK _ ?_); clear hK
  obtain ⟨j5, hj3, h⟩ := bind_some h
  refine SWp.seqC [] [] (fun v : Unit => ⟨[], []⟩) (fun v => j5 = Sum.inl v) (fun v hv => ?_) fun K4 hK4 => ?_
  rotate_left
  · refine SWp.seqR rfl (hPB _ rfl) fun K hK => ?_
    iterate 3 (refine wps_cons rfl fun K hK => ?_; simp [hN']; refine hK _ ?_; clear hK)
    refine wps_nil (hK _ ?_); clear hK
    refine SWp.block ?_
    refine SWp.loopO [] [1, 7, 8, 9] [] (fun v : Int => ⟨[(1, .t (vi n2)), (7, .t (.sl false 1 (List.map vi l1))), (8, .t (vi (l1.length : Int))), (9, .t (vi v))], []⟩) (impl_hasInt_l1 l1 n2) _ 0 hj3 (by simp [hN']) ?_
    intro g s9 h7 ho8
    obtain ⟨v6, hg⟩ : ∃ y, y = g := ⟨_, rfl⟩
    subst hg
    simp only [impl_hasInt_l1] at h7
    try dsimp only
    refine SWp.seqR rfl (hPB _ rfl) fun K hK => ?_
    refine wps_cons rfl fun K hK => ?_; simp [hN']; refine hK _ ?_; clear hK
    refine wps_nil (hK _ ?_); clear hK
    refine SWp.seq ?_
    rcases ite_or h7 with ⟨hb10, h7⟩ | ⟨hb11, h7⟩
    · refine SWp.condT' (b := decide (v6 < (l1.length : Int))) (by simp) hb10 ?_
      refine SWp.skip ?_
      show SWp E C _ _ _
      refine SWp.seq ?_
      refine SWp.block ?_
      refine SWp.seqR rfl (hPB _ rfl) fun K hK => ?_
      obtain ⟨e12, he12, h7⟩ := bind_some h7
      obtain ⟨he12a, he12b, he12c, he12d⟩ := getI_some he12
      iterate 3 (refine wps_cons rfl fun K hK => ?_; simp [hN', he12a, he12b, he12c, he12d]; refine hK _ ?_; clear hK)
      refine wps_nil (hK _ ?_); clear hK
      refine SWp.seqR rfl (hPB _ rfl) fun K hK => ?_
      iterate 3 (refine wps_cons rfl fun K hK => ?_; simp [hN']; refine hK _ ?_; clear hK)
      refine wps_nil (hK _ ?_); clear hK
      rcases ite_or h7 with ⟨hb13, h7⟩ | ⟨hb14, h7⟩
      · refine SWp.condT' (b := e12 == n2) (by simp) hb13 ?_
        refine SWp.seqR rfl (hPB _ rfl) fun K hK => ?_
        refine wps_cons rfl fun K hK => ?_; simp [hN']; refine hK _ ?_; clear hK
        refine wps_nil (hK _ ?_); clear hK
        have h15 := congrArg some (ho8 _ (Option.some.inj h7).symm)
        cases h15
        try dsimp only at h
        cases h
        refine SWp.ret ?_
        simp [thenS, inBlockS, res52]
      · refine SWp.condF' (b := e12 == n2) (by simp) hb14 ?_
        refine SWp.skip ?_
        show SWp E C _ _ _
        refine SWp.reg rfl (hPB _ rfl) fun K hK => ?_
        iterate 2 (refine wps_cons rfl fun K hK => ?_; simp [hN']; refine hK _ ?_; clear hK)
        refine wps_nil (hK _ ?_); clear hK
        cases h7
        exact ⟨_, [], rfl, by simp [hN']⟩
    · refine SWp.condF' (b := decide (v6 < (l1.length : Int))) (by simp) hb11 ?_
      refine SWp.exit ?_
      have h16 := congrArg some (ho8 _ (Option.some.inj h7).symm)
      cases h16
      exact hK4 _ _ [] rfl (by simp [hN'])
  subst hv
  obtain ⟨⟩ := v
  try dsimp only at h ⊢
  refine SWp.seqR rfl (hPB _ rfl) fun K hK => ?_
  refine wps_cons rfl fun K hK => ?_; simp [hN']; refine hK _ ?_; clear hK
  refine wps_nil (hK _ ?_); clear hK
  cases h
  refine SWp.ret ?_
  simp [thenS, inBlockS, res52]
end Go.Proofs.T
set_option linter.unusedVariables false
set_option linter.unusedSimpArgs false
set_option maxHeartbeats 1000000
namespace Go.Proofs.T
open Go.OM
theorem res142 : Tryd.f142.results.toList = [.tmp 2] := rfl
theorem ent142 : Enters E.P 142 := enters_of Tryd.func142 (by simp [Tryd.f142]) rfl
theorem impl_isLetter_ok (b1 : Int) {r0 : Bool} (h : impl_isLetter b1 = some r0) : Ok E 142 [.val (vk .u8 b1)] [vb r0] [] := by
  refine ok_of_body (fn := Tryd.f142) Tryd.func142 rfl (by simp [Tryd.f142]) fun C hN hP => ?_
  have hPB : ∀ l, pinK [] l = true → pinB C.pin l = true := pinB_of (by rw [hP]; rfl)
  have hN' : C.N = 9 := hN
  clear hN
  unfold impl_isLetter at h
  refine SWp.seqR rfl (hPB _ rfl) fun K hK => ?_
  refine wps_cons rfl fun K hK => ?_; simp [hN']; refine hK _ ?_; clear hK
  refine wps_nil (hK _ ?_); clear hK
  obtain ⟨v6, hj2, h⟩ := bind_some h
  refine SWp.seqRC rfl (hPB _ rfl) [2] [] (fun _ : Unit => ⟨[(2, .t (vb v6))], []⟩) (fun _ => True) (fun _ _ => ?_) fun K3 hK3 => ?_
  rotate_left
  · refine wps_cons rfl fun K hK => ?_; simp [hN']; refine hK _ ?_; clear hK
    iterate 2 (refine wps_cons rfl fun K hK => ?_; simp [hN']; refine hK _ ?_; clear hK)
    rcases ite_or hj2 with ⟨hb4, hj2⟩ | ⟨hb5, hj2⟩
    · have hb4s := hb4
      try simp at hb4s
      iterate 4 (refine wps_cons rfl fun K hK => ?_; simp [hN', hb4, hb4s]; refine hK _ ?_; clear hK)
      refine wps_nil ?_
      cases hj2
      exact hK3 _ () [] trivial (by simp [hN', hb4, hb4s])
    · have hb5s := hb5
      try simp at hb5s
      iterate 2 (refine wps_off fun K hK => ?_; simp [hN', hb5, hb5s]; refine hK _ ?_; clear hK)
      iterate 2 (refine wps_cons rfl fun K hK => ?_; simp [hN', hb5, hb5s]; refine hK _ ?_; clear hK)
      refine wps_nil ?_
      cases hj2
      exact hK3 _ () [] trivial (by simp [hN', hb5, hb5s])
  cases h
  refine SWp.ret ?_
  simp [thenS, inBlockS, res142]
end Go.Proofs.T
set_option linter.unusedVariables false
set_option linter.unusedSimpArgs false
set_option maxHeartbeats 1000000
namespace Go.Proofs.T
open Go.OM
theorem res143 : Tryd.f143.results.toList = [.tmp 2] := rfl
theorem ent143 : Enters E.P 143 := enters_of Tryd.func143 (by simp [Tryd.f143]) rfl
theorem impl_isFigure_ok (b1 : Int) {r0 : Bool} (h : impl_isFigure b1 = some r0) : Ok E 143 [.val (vk .u8 b1)] [vb r0] [] := by
  refine ok_of_body (fn := Tryd.f143) Tryd.func143 rfl (by simp [Tryd.f143]) fun C hN hP => ?_
  have hPB : ∀ l, pinK [] l = true → pinB C.pin l = true := pinB_of (by rw [hP]; rfl)
  have hN' : C.N = 9 := hN
  clear hN
  unfold impl_isFigure at h
  refine SWp.seqR rfl (hPB _ rfl) fun K hK => ?_
  refine wps_cons rfl fun K hK => ?_; simp [hN']; refine hK _ ?_; clear hK
  refine wps_nil (hK _ ?_); clear hK
  obtain ⟨v6, hj2, h⟩ := bind_some h
  refine SWp.seqRC rfl (hPB _ rfl) [2] [] (fun _ : Unit => ⟨[(2, .t (vb v6))], []⟩) (fun _ => True) (fun _ _ => ?_) fun K3 hK3 => ?_
  rotate_left
  · refine wps_cons rfl fun K hK => ?_; simp [hN']; refine hK _ ?_; clear hK
    iterate 2 (refine wps_cons rfl fun K hK => ?_; simp [hN']; refine hK _ ?_; clear hK)
    rcases ite_or hj2 with ⟨hb4, hj2⟩ | ⟨hb5, hj2⟩
    · have hb4s := hb4
      try simp at hb4s
      iterate 4 (refine wps_cons rfl fun K hK => ?_; simp [hN', hb4, hb4s]; refine hK _ ?_; clear hK)
      refine wps_nil ?_
      cases hj2
      exact hK3 _ () [] trivial (by simp [hN', hb4, hb4s])
    · have hb5s := hb5
      try simp at hb5s
      iterate 2 (refine wps_off fun K hK => ?_; simp [hN', hb5, hb5s]; refine hK _ ?_; clear hK)
      iterate 2 (refine wps_cons rfl fun K hK => ?_; simp [hN', hb5, hb5s]; refine hK _ ?_; clear hK)
      refine wps_nil ?_
      cases hj2
      exact hK3 _ () [] trivial (by simp [hN', hb5, hb5s])
  cases h
  refine SWp.ret ?_
  simp [thenS, inBlockS, res143]
end Go.Proofs.T
namespace Go.Proofs
open Go.Shelf
def Tryd.lays146_ren : Go.Shelf.Ren := ⟨fun | 146 => 159 | 221 => 160 | 268 => 161 | 138 => 162 | 143 => 163 | 195 => 164 | 197 => 165 | 218 => 166 | 219 => 167 | 260 => 168 | 217 => 169 | 225 => 170 | 224 => 171 | 267 => 172 | 266 => 173 | 314 => 174 | n => n, fun | 9 => 9 | 31 => 161 | 3 => 3 | 4 => 4 | 0 => 0 | 105 => 170 | 21 => 21 | 5 => 5 | 46 => 174 | 119 => 175 | 139 => 178 | 138 => 177 | 146 => 180 | 51 => 179 | n => n, fun | 1 => 0 | 3 => 1 | 4 => 2 | n => n⟩
theorem Tryd.lays146 : Go.Proofs.Lays.n146 Tryd.prog Tryd.lays146_ren := {
  mixed := by kernel_rfl
  f138 := Tryd.func162.trans (congrArg some (by kernel_rfl))
  f143 := Tryd.func163.trans (congrArg some (by kernel_rfl))
  f146 := Tryd.func159.trans (congrArg some (by kernel_rfl))
  f195 := Tryd.func164.trans (congrArg some (by kernel_rfl))
  f197 := Tryd.func165.trans (congrArg some (by kernel_rfl))
  f217 := Tryd.func169.trans (congrArg some (by kernel_rfl))
  f218 := Tryd.func166.trans (congrArg some (by kernel_rfl))
  f219 := Tryd.func167.trans (congrArg some (by kernel_rfl))
  f221 := Tryd.func160.trans (congrArg some (by kernel_rfl))
  f224 := Tryd.func171.trans (congrArg some (by kernel_rfl))
  f225 := Tryd.func170.trans (congrArg some (by kernel_rfl))
  f260 := Tryd.func168.trans (congrArg some (by kernel_rfl))
  f266 := Tryd.func173.trans (congrArg some (by kernel_rfl))
  f267 := Tryd.func172.trans (congrArg some (by kernel_rfl))
  f268 := Tryd.func161.trans (congrArg some (by kernel_rfl))
  f314 := Tryd.func174.trans (congrArg some (by kernel_rfl))
  t0 := Tryd.underlying0
  a0 := Tryd.isAgg0
  z0 := Tryd.sizeOf0
  v0 := Tryd.zeroValue0
  t3 := Tryd.underlying3
  a3 := Tryd.isAgg3
  z3 := Tryd.sizeOf3
  v3 := Tryd.zeroValue3
  t4 := Tryd.underlying4
  a4 := Tryd.isAgg4
  z4 := Tryd.sizeOf4
  v4 := Tryd.zeroValue4
  t5 := Tryd.underlying5
  a5 := Tryd.isAgg5
  z5 := Tryd.sizeOf5
  v5 := Tryd.zeroValue5
  t9 := Tryd.underlying9
  a9 := Tryd.isAgg9
  z9 := Tryd.sizeOf9
  v9 := Tryd.zeroValue9
  t21 := Tryd.underlying21
  a21 := Tryd.isAgg21
  z21 := Tryd.sizeOf21
  v21 := Tryd.zeroValue21
  t31 := Tryd.underlying161
  a31 := Tryd.isAgg161
  z31 := Tryd.sizeOf161
  v31 := Tryd.zeroValue161
  t46 := Tryd.underlying174
  a46 := Tryd.isAgg174
  z46 := Tryd.sizeOf174
  v46 := Tryd.zeroValue174
  t51 := Tryd.underlying179
  a51 := Tryd.isAgg179
  z51 := Tryd.sizeOf179
  v51 := Tryd.zeroValue179
  t105 := Tryd.underlying170
  a105 := Tryd.isAgg170
  z105 := Tryd.sizeOf170
  v105 := Tryd.zeroValue170
  t119 := Tryd.underlying175
  a119 := Tryd.isAgg175
  z119 := Tryd.sizeOf175
  t138 := Tryd.underlying177
  a138 := Tryd.isAgg177
  z138 := Tryd.sizeOf177
  v138 := Tryd.zeroValue177
  t139 := Tryd.underlying178
  a139 := Tryd.isAgg178
  z139 := Tryd.sizeOf178
  v139 := Tryd.zeroValue178
  t146 := Tryd.underlying180
  a146 := Tryd.isAgg180
  z146 := Tryd.sizeOf180
  v146 := Tryd.zeroValue180
  g1 := by kernel_rfl
  g3 := by kernel_rfl
  g4 := by kernel_rfl }
open Go.RowKit Go.Lib in
theorem Tryd.strings_Split (s sep : ByteArray) (m : Int) (w : World) (hs : s.size < 4294967281) (hm : w.cell? ⟨0, 0, none⟩ = some (.int .i64 m)) (h1 : 1 ≤ sep.size) :
    Calls Tryd.prog 159 #[.string s, .string sep] w fun e w' =>
      e = .returned (.slice (some ⟨w.heap.size, 0, none⟩) (Lib.countB s sep + 1) (Lib.countB s sep + 1)) ∧ w' = w.alloc (.cells ((Lib.splitB sep 0 (Lib.countB s sep) s).map Value.string).toArray 9) := Any.strings_Split Tryd.lays146 (by kernel_rfl) s sep m w hs hm h1
end Go.Proofs
set_option linter.unusedVariables false
set_option linter.unusedSimpArgs false
namespace Go.Proofs.T
open Go.OM
theorem ent159 : Enters E.P 159 := enters_of Tryd.func159 (by simp [Tryd.f159]) rfl
theorem maxLen_cell {w : World} (h : E.Gl w) : ∃ m, w.cell? ⟨0, 0, none⟩ = some (.int .i64 m) := by
  obtain ⟨cs, t, fr, h1, m, h2⟩ := h _ (List.mem_singleton.2 rfl)
  refine ⟨m, ?_⟩
  have h1' : w.heap[0]? = some (.cells cs t fr) := h1
  simp [World.cell?, h1', h2]
theorem strings_Split_ok (s sep : ByteArray) {r0 : List ByteArray} (h : strings_Split s sep = some r0) : Ok E 159 [.val (vs s), .val (vs sep)] [.sl true 1 (List.map vs r0)] [] := by
  unfold strings_Split at h
  split at h
  case isFalse => cases h
  rename_i hr
  injection h with h
  subst h
  have := ok_fresh (E := E) (f := 159) (ty := 9) (xs := [.string s, .string sep]) (es := (Lib.splitB sep 0 (Lib.countB s sep) s).map Value.string) (by simp [TA.OneCell]) fun w hw => by
    obtain ⟨m, hm⟩ := maxLen_cell hw
    have h1 := Tryd.strings_Split s sep m w hr.1 hm hr.2.1
    refine h1.mono fun e w' ⟨h2, h3⟩ => ⟨?_, h3⟩
    rw [h2, List.length_map, hr.2.2]
    try rfl
  rw [List.map_map] at this
  exact this
end Go.Proofs.T
set_option linter.unusedVariables false
set_option linter.unusedSimpArgs false
set_option maxHeartbeats 1000000
namespace Go.Proofs.T
open Go.OM
theorem res157 : Tryd.f157.results.toList = [.tmp 4] := rfl
theorem ent157 : Enters E.P 157 := enters_of Tryd.func157 (by simp [Tryd.f157]) rfl
theorem impl_oneOf_ok (s1 : ByteArray) (words2 : ByteArray) {r0 : Bool} (h : impl_oneOf s1 words2 = some r0) : Ok E 157 [.val (vs s1), .val (vs words2)] [vb r0] [] := by
  refine ok_of_body (fn := Tryd.f157) Tryd.func157 rfl (by simp [Tryd.f157]) fun C hN hP => ?_
  have hPB : ∀ l, pinK [] l = true → pinB C.pin l = true := pinB_of (by rw [hP]; rfl)
  have hN' : C.N = 18 := hN
  clear hN
  unfold impl_oneOf at h
  refine SWp.seqR rfl (hPB _ rfl) fun K hK => ?_
  refine wps_cons rfl fun K hK => ?_; simp [hN']; refine hK _ ?_; clear hK
  refine wps_nil (hK _ ?_); clear hK
  obtain ⟨j5, hj3, h⟩ := bind_some h
  refine SWp.seqC [] [] (fun v : Unit => ⟨[], []⟩) (fun v => j5 = Sum.inl v) (fun v hv => ?_) fun K4 hK4 => ?_
  rotate_left
  · refine SWp.seqR rfl (hPB _ rfl) fun K hK => ?_
    refine wps_cons rfl fun K hK => ?_; simp [hN']; refine hK _ ?_; clear hK
    obtain ⟨r6, hc7, hj3⟩ := bind_some hj3
    refine wps_call [(.take, .tmp 7), (.take, .const (.string (⟨#[32]⟩ : ByteArray)))] rfl rfl ent159 (strings_Split_ok _ _ hc7) fun K hK => ?_; simp [hN']; refine hK _ ?_; clear hK
    iterate 2 (refine wps_cons rfl fun K hK => ?_; simp [hN']; refine hK _ ?_; clear hK)
    refine wps_nil (hK _ ?_); clear hK
    refine SWp.block ?_
    refine SWp.loopO [] [0, 8, 9, 10] [] (fun v : Int => ⟨[(0, .t (vs s1)), (8, .t (.sl true 1 (List.map vs r6))), (9, .t (vi (r6.length : Int))), (10, .t (vi v))], []⟩) (impl_oneOf_l1 s1 r6) _ 0 hj3 (by simp [hN']) ?_
    intro g s11 h9 ho10
    obtain ⟨v8, hg⟩ : ∃ y, y = g := ⟨_, rfl⟩
    subst hg
    simp only [impl_oneOf_l1] at h9
    try dsimp only
    refine SWp.seqR rfl (hPB _ rfl) fun K hK => ?_
    refine wps_cons rfl fun K hK => ?_; simp [hN']; refine hK _ ?_; clear hK
    refine wps_nil (hK _ ?_); clear hK
    refine SWp.seq ?_
    rcases ite_or h9 with ⟨hb12, h9⟩ | ⟨hb13, h9⟩
    · refine SWp.condT' (b := decide (v8 < (r6.length : Int))) (by simp) hb12 ?_
      refine SWp.skip ?_
      show SWp E C _ _ _
      refine SWp.seq ?_
      refine SWp.block ?_
      refine SWp.seqR rfl (hPB _ rfl) fun K hK => ?_
      obtain ⟨e14, he14, h9⟩ := bind_some h9
      obtain ⟨he14a, he14b, he14c, he14d⟩ := getI_some he14
      iterate 3 (refine wps_cons rfl fun K hK => ?_; simp [hN', he14a, he14b, he14c, he14d]; refine hK _ ?_; clear hK)
      refine wps_nil (hK _ ?_); clear hK
      refine SWp.seqR rfl (hPB _ rfl) fun K hK => ?_
      iterate 3 (refine wps_cons rfl fun K hK => ?_; simp [hN']; refine hK _ ?_; clear hK)
      refine wps_nil (hK _ ?_); clear hK
      rcases ite_or h9 with ⟨hb15, h9⟩ | ⟨hb16, h9⟩
      · refine SWp.condT' (b := sEq e14 s1) (by simp) hb15 ?_
        refine SWp.seqR rfl (hPB _ rfl) fun K hK => ?_
        refine wps_cons rfl fun K hK => ?_; simp [hN']; refine hK _ ?_; clear hK
        refine wps_nil (hK _ ?_); clear hK
        have h17 := congrArg some (ho10 _ (Option.some.inj h9).symm)
        cases h17
        try dsimp only at h
        cases h
        refine SWp.ret ?_
        simp [thenS, inBlockS, res157]
      · refine SWp.condF' (b := sEq e14 s1) (by simp) hb16 ?_
        refine SWp.skip ?_
        show SWp E C _ _ _
        refine SWp.reg rfl (hPB _ rfl) fun K hK => ?_
        iterate 2 (refine wps_cons rfl fun K hK => ?_; simp [hN']; refine hK _ ?_; clear hK)
        refine wps_nil (hK _ ?_); clear hK
        cases h9
        exact ⟨_, [], rfl, by simp [hN']⟩
    · refine SWp.condF' (b := decide (v8 < (r6.length : Int))) (by simp) hb13 ?_
      refine SWp.exit ?_
      have h18 := congrArg some (ho10 _ (Option.some.inj h9).symm)
      cases h18
      exact hK4 _ _ [] rfl (by simp [hN'])
  subst hv
  obtain ⟨⟩ := v
  try dsimp only at h ⊢
  refine SWp.seqR rfl (hPB _ rfl) fun K hK => ?_
  refine wps_cons rfl fun K hK => ?_; simp [hN']; refine hK _ ?_; clear hK
  refine wps_nil (hK _ ?_); clear hK
  cases h
  refine SWp.ret ?_
  simp [thenS, inBlockS, res157]
end Go.Proofs.T
set_option linter.unusedVariables false
set_option linter.unusedSimpArgs false
set_option maxHeartbeats 1000000
namespace Go.Proofs.T
open Go.OM
theorem res144 : Tryd.f144.results.toList = [.tmp 2] := rfl
theorem ent144 : Enters E.P 144 := enters_of Tryd.func144 (by simp [Tryd.f144]) rfl
theorem impl_KeyWord_ok (s1 : ByteArray) {r0 : Bool} (h : impl_KeyWord s1 = some r0) : Ok E 144 [.val (vs s1)] [vb r0] [] := by
  refine ok_of_body (fn := Tryd.f144) Tryd.func144 rfl (by simp [Tryd.f144]) fun C hN hP => ?_
  have hPB : ∀ l, pinK [] l = true → pinB C.pin l = true := pinB_of (by rw [hP]; rfl)
  have hN' : C.N = 5 := hN
  clear hN
  unfold impl_KeyWord at h
  refine SWp.seqR rfl (hPB _ rfl) fun K hK => ?_
  refine wps_cons rfl fun K hK => ?_; simp [hN']; refine hK _ ?_; clear hK
  refine wps_nil (hK _ ?_); clear hK
  refine SWp.seqR rfl (hPB _ rfl) fun K hK => ?_
  refine wps_cons rfl fun K hK => ?_; simp [hN']; refine hK _ ?_; clear hK
  obtain ⟨r2, hc3, h⟩ := bind_some h
  refine wps_call [(.take, .tmp 3), (.take, .const (.string (⟨#[102, 110, 32, 108, 101, 116, 32, 105, 102, 32, 101, 108, 115, 101, 32, 119, 104, 105, 108, 101, 32, 112, 114, 105, 110, 116, 32, 100, 111, 32, 110, 101, 119, 32, 99, 108, 111, 110, 101, 32, 109, 117, 116, 32, 105, 110, 112, 117, 116, 32, 105, 110, 116, 32, 98, 111, 120, 32, 114, 101, 116]⟩ : ByteArray)))] rfl rfl ent157 (impl_oneOf_ok _ _ hc3) fun K hK => ?_; simp [hN']; refine hK _ ?_; clear hK
  refine wps_cons rfl fun K hK => ?_; simp [hN']; refine hK _ ?_; clear hK
  refine wps_nil (hK _ ?_); clear hK
  cases h
  refine SWp.ret ?_
  simp [thenS, inBlockS, res144]
end Go.Proofs.T
set_option linter.unusedVariables false
set_option linter.unusedSimpArgs false
set_option maxHeartbeats 1000000
namespace Go.Proofs.T
open Go.OM
theorem res118 : Tryd.f118.results.toList = [.tmp 2] := rfl
theorem ent118 : Enters E.P 118 := enters_of Tryd.func118 (by simp [Tryd.f118]) rfl
theorem impl_NameOk_ok (s1 : ByteArray) {r0 : Bool} (h : impl_NameOk s1 = some r0) : Ok E 118 [.val (vs s1)] [vb r0] [] := by
  refine ok_of_body (fn := Tryd.f118) Tryd.func118 rfl (by simp [Tryd.f118]) fun C hN hP => ?_
  have hPB : ∀ l, pinK [] l = true → pinB C.pin l = true := pinB_of (by rw [hP]; rfl)
  have hN' : C.N = 35 := hN
  clear hN
  unfold impl_NameOk at h
  refine SWp.seqR rfl (hPB _ rfl) fun K hK => ?_
  refine wps_cons rfl fun K hK => ?_; simp [hN']; refine hK _ ?_; clear hK
  refine wps_nil (hK _ ?_); clear hK
  refine SWp.seq ?_
  obtain ⟨v11, hj2, h⟩ := bind_some h
  refine SWp.seqRC rfl (hPB _ rfl) [0, 13] [] (fun _ : Unit => ⟨[(0, .t (vs s1)), (13, .t (vb v11))], []⟩) (fun _ => True) (fun _ _ => ?_) fun K3 hK3 => ?_
  rotate_left
  · refine wps_cons rfl fun K hK => ?_; simp [hN']; refine hK _ ?_; clear hK
    refine wps_cons rfl fun K hK => ?_; simp [hN']; refine hK _ ?_; clear hK
    obtain ⟨r4, hc5, hj2⟩ := bind_some hj2
    refine wps_call [(.take, .tmp 5), (.take, .const (.int .i64 1)), (.take, .const (.int .i64 8))] rfl rfl ent91 (impl_in_ok _ _ _ hc5) fun K hK => ?_; simp [hN']; refine hK _ ?_; clear hK
    iterate 2 (refine wps_cons rfl fun K hK => ?_; simp [hN']; refine hK _ ?_; clear hK)
    rcases ite_or hj2 with ⟨hb6, hj2⟩ | ⟨hb7, hj2⟩
    · have hb6s := hb6
      try simp at hb6s
      iterate 4 (refine wps_off fun K hK => ?_; simp [hN', hb6, hb6s]; refine hK _ ?_; clear hK)
      refine wps_cons rfl fun K hK => ?_; simp [hN', hb6, hb6s]; refine hK _ ?_; clear hK
      refine wps_nil ?_
      cases hj2
      exact hK3 _ () [] trivial (by simp [hN', hb6, hb6s])
    · have hb7s := hb7
      try simp at hb7s
      refine wps_cons rfl fun K hK => ?_; simp [hN', hb7, hb7s]; refine hK _ ?_; clear hK
      obtain ⟨c8, hc8, hj2⟩ := bind_some hj2
      obtain ⟨hc8a, hc8b, hc8c⟩ := sAt_some hc8
      have hc8e : 0 < s1.size := by omega
      refine wps_cons rfl fun K hK => ?_; simp [hN', hb7, hb7s, hc8a, hc8b, hc8c, hc8e]; refine hK _ ?_; clear hK
      obtain ⟨r9, hc10, hj2⟩ := bind_some hj2
      refine wps_call [(.take, .tmp 10)] rfl rfl ent142 (impl_isLetter_ok _ hc10) fun K hK => ?_; simp [hN', hb7, hb7s, hc8a, hc8b, hc8c, hc8e]; refine hK _ ?_; clear hK
      iterate 2 (refine wps_cons rfl fun K hK => ?_; simp [hN', hb7, hb7s, hc8a, hc8b, hc8c, hc8e]; refine hK _ ?_; clear hK)
      refine wps_nil ?_
      cases hj2
      exact hK3 _ () [] trivial (by simp [hN', hb7, hb7s, hc8a, hc8b, hc8c, hc8e])
  rcases ite_or h with ⟨hb12, h⟩ | ⟨hb13, h⟩
  · refine SWp.condT' (b := v11) (by simp) hb12 ?_
    refine SWp.seqR rfl (hPB _ rfl) fun K hK => ?_
    refine wps_cons rfl fun K hK => ?_; simp [hN']; refine hK _ ?_; clear hK
    refine wps_nil (hK _ ?_); clear hK
    cases h
    refine SWp.ret ?_
    simp [thenS, inBlockS, res118]
  · refine SWp.condF' (b := v11) (by simp) hb13 ?_
    refine SWp.skip ?_
    show SWp E C _ _ _
    obtain ⟨j16, hj14, h⟩ := bind_some h
    refine SWp.seqC [0] [] (fun v : Unit => ⟨[(0, .t (vs s1))], []⟩) (fun v => j16 = Sum.inl v) (fun v hv => ?_) fun K15 hK15 => ?_
    rotate_left
    · refine SWp.seqR rfl (hPB _ rfl) fun K hK => ?_
      refine wps_cons rfl fun K hK => ?_; simp [hN']; refine hK _ ?_; clear hK
      refine wps_nil (hK _ ?_); clear hK
      refine SWp.block ?_
      refine SWp.loopO [] [0, 3] [] (fun v : Int => ⟨[(0, .t (vs s1)), (3, .t (vi v))], []⟩) (impl_NameOk_l1 s1) _ 0 hj14 (by simp [hN']) ?_
      intro g s20 h18 ho19
      obtain ⟨i17, hg⟩ : ∃ y, y = g := ⟨_, rfl⟩
      subst hg
      simp only [impl_NameOk_l1] at h18
      try dsimp only
      refine SWp.seq ?_
      refine SWp.seqR rfl (hPB _ rfl) fun K hK => ?_
      iterate 4 (refine wps_cons rfl fun K hK => ?_; simp [hN']; refine hK _ ?_; clear hK)
      refine wps_nil (hK _ ?_); clear hK
      rcases ite_or h18 with ⟨hb21, h18⟩ | ⟨hb22, h18⟩
      · refine SWp.condT' (b := decide (i17 < (s1.size : Int))) (by simp) hb21 ?_
        refine SWp.skip ?_
        show SWp E C _ _ _
        refine SWp.seq ?_
        refine SWp.block ?_
        obtain ⟨v32, hj23, h18⟩ := bind_some h18
        refine SWp.seqRC rfl (hPB _ rfl) [0, 3, 31] [] (fun _ : Unit => ⟨[(0, .t (vs s1)), (3, .t (vi i17)), (31, .t (vb v32))], []⟩) (fun _ => True) (fun _ _ => ?_) fun K24 hK24 => ?_
        rotate_left
        · refine wps_cons rfl fun K hK => ?_; simp [hN']; refine hK _ ?_; clear hK
          refine wps_cons rfl fun K hK => ?_; simp [hN']; refine hK _ ?_; clear hK
          obtain ⟨c25, hc25, hj23⟩ := bind_some hj23
          obtain ⟨hc25a, hc25b, hc25c⟩ := sAt_some hc25
          refine wps_cons rfl fun K hK => ?_; simp [hN', hc25a, hc25b, hc25c]; refine hK _ ?_; clear hK
          obtain ⟨r26, hc27, hj23⟩ := bind_some hj23
          refine wps_call [(.take, .tmp 22)] rfl rfl ent142 (impl_isLetter_ok _ hc27) fun K hK => ?_; simp [hN', hc25a, hc25b, hc25c]; refine hK _ ?_; clear hK
          iterate 2 (refine wps_cons rfl fun K hK => ?_; simp [hN', hc25a, hc25b, hc25c]; refine hK _ ?_; clear hK)
          rcases ite_or hj23 with ⟨hb28, hj23⟩ | ⟨hb29, hj23⟩
          · have hb28s := hb28
            try simp at hb28s
            iterate 3 (refine wps_cons rfl fun K hK => ?_; simp [hN', hc25a, hc25b, hc25c, hb28, hb28s]; refine hK _ ?_; clear hK)
            obtain ⟨r30, hc31, hj23⟩ := bind_some hj23
            refine wps_call [(.take, .tmp 28)] rfl rfl ent143 (impl_isFigure_ok _ hc31) fun K hK => ?_; simp [hN', hc25a, hc25b, hc25c, hb28, hb28s]; refine hK _ ?_; clear hK
            iterate 2 (refine wps_cons rfl fun K hK => ?_; simp [hN', hc25a, hc25b, hc25c, hb28, hb28s]; refine hK _ ?_; clear hK)
            refine wps_nil ?_
            cases hj23
            exact hK24 _ () [] trivial (by simp [hN', hc25a, hc25b, hc25c, hb28, hb28s])
          · have hb29s := hb29
            try simp at hb29s
            iterate 5 (refine wps_off fun K hK => ?_; simp [hN', hc25a, hc25b, hc25c, hb29, hb29s]; refine hK _ ?_; clear hK)
            refine wps_cons rfl fun K hK => ?_; simp [hN', hc25a, hc25b, hc25c, hb29, hb29s]; refine hK _ ?_; clear hK
            refine wps_nil ?_
            cases hj23
            exact hK24 _ () [] trivial (by simp [hN', hc25a, hc25b, hc25c, hb29, hb29s])
        rcases ite_or h18 with ⟨hb33, h18⟩ | ⟨hb34, h18⟩
        · refine SWp.condT' (b := v32) (by simp) hb33 ?_
          refine SWp.seqR rfl (hPB _ rfl) fun K hK => ?_
          refine wps_cons rfl fun K hK => ?_; simp [hN']; refine hK _ ?_; clear hK
          refine wps_nil (hK _ ?_); clear hK
          have h35 := congrArg some (ho19 _ (Option.some.inj h18).symm)
          cases h35
          try dsimp only at h
          cases h
          refine SWp.ret ?_
          simp [thenS, inBlockS, res118]
        · refine SWp.condF' (b := v32) (by simp) hb34 ?_
          refine SWp.skip ?_
          show SWp E C _ _ _
          refine SWp.reg rfl (hPB _ rfl) fun K hK => ?_
          iterate 3 (refine wps_cons rfl fun K hK => ?_; simp [hN']; refine hK _ ?_; clear hK)
          refine wps_nil (hK _ ?_); clear hK
          cases h18
          exact ⟨_, [], rfl, by simp [hN']⟩
      · refine SWp.condF' (b := decide (i17 < (s1.size : Int))) (by simp) hb22 ?_
        refine SWp.exit ?_
        have h36 := congrArg some (ho19 _ (Option.some.inj h18).symm)
        cases h36
        exact hK15 _ _ [] rfl (by simp [hN'])
    subst hv
    obtain ⟨⟩ := v
    try dsimp only at h ⊢
    refine SWp.seqR rfl (hPB _ rfl) fun K hK => ?_
    refine wps_cons rfl fun K hK => ?_; simp [hN']; refine hK _ ?_; clear hK
    obtain ⟨r37, hc38, h⟩ := bind_some h
    refine wps_call [(.take, .tmp 32)] rfl rfl ent144 (impl_KeyWord_ok _ hc38) fun K hK => ?_; simp [hN']; refine hK _ ?_; clear hK
    iterate 2 (refine wps_cons rfl fun K hK => ?_; simp [hN']; refine hK _ ?_; clear hK)
    refine wps_nil (hK _ ?_); clear hK
    cases h
    refine SWp.ret ?_
    simp [thenS, inBlockS, res118]
end Go.Proofs.T
set_option linter.unusedVariables false
set_option linter.unusedSimpArgs false
set_option maxHeartbeats 1000000
namespace Go.Proofs.T
open Go.OM
theorem res130 : Tryd.f130.results.toList = [.tmp 2, .tmp 3] := rfl
theorem ent130 : Enters E.P 130 := enters_of Tryd.func130 (by simp [Tryd.f130]) rfl
theorem impl_shape_ok (kind1 : Int) {r0 : Int} {r1 : Int} (h : impl_shape kind1 = some (r0, r1)) : Ok E 130 [.val (vi kind1)] [vi r0, vi r1] [] := by
  refine ok_of_body (fn := Tryd.f130) Tryd.func130 rfl (by simp [Tryd.f130]) fun C hN hP => ?_
  have hPB : ∀ l, pinK [] l = true → pinB C.pin l = true := pinB_of (by rw [hP]; rfl)
  have hN' : C.N = 23 := hN
  clear hN
  unfold impl_shape at h
  refine SWp.seqR rfl (hPB _ rfl) fun K hK => ?_
  iterate 2 (refine wps_cons rfl fun K hK => ?_; simp [hN']; refine hK _ ?_; clear hK)
  refine wps_nil (hK _ ?_); clear hK
  refine SWp.seq ?_
  refine SWp.seqR rfl (hPB _ rfl) fun K hK => ?_
  refine wps_cons rfl fun K hK => ?_; simp [hN']; refine hK _ ?_; clear hK
  refine wps_nil (hK _ ?_); clear hK
  refine SWp.block ?_
  obtain ⟨v15, hj2, h⟩ := bind_some h
  refine SWp.seqC [4, 5] [] (fun _ : Unit => ⟨[(4, .t (vi kind1)), (5, .t (vb v15))], []⟩) (fun _ => True) (fun _ _ => ?_) fun K3 hK3 => ?_
  rotate_left
  · refine SWp.seqR rfl (hPB _ rfl) fun K hK => ?_
    iterate 2 (refine wps_cons rfl fun K hK => ?_; simp [hN']; refine hK _ ?_; clear hK)
    refine wps_nil (hK _ ?_); clear hK
    rcases ite_or hj2 with ⟨hb5, hj2⟩ | ⟨hb6, hj2⟩
    · refine SWp.condT' (b := kind1 == 8) (by simp) hb5 ?_
      refine SWp.skip ?_
      cases hj2
      exact hK3 _ () [] trivial (by simp [hN'])
    · refine SWp.condF' (b := kind1 == 8) (by simp) hb6 ?_
      refine SWp.seqR rfl (hPB _ rfl) fun K hK => ?_
      iterate 2 (refine wps_cons rfl fun K hK => ?_; simp [hN']; refine hK _ ?_; clear hK)
      refine wps_nil (hK _ ?_); clear hK
      rcases ite_or hj2 with ⟨hb7, hj2⟩ | ⟨hb8, hj2⟩
      · refine SWp.condT' (b := kind1 == 13) (by simp) hb7 ?_
        refine SWp.skip ?_
        cases hj2
        exact hK3 _ () [] trivial (by simp [hN'])
      · refine SWp.condF' (b := kind1 == 13) (by simp) hb8 ?_
        refine SWp.seqR rfl (hPB _ rfl) fun K hK => ?_
        iterate 2 (refine wps_cons rfl fun K hK => ?_; simp [hN']; refine hK _ ?_; clear hK)
        refine wps_nil (hK _ ?_); clear hK
        rcases ite_or hj2 with ⟨hb9, hj2⟩ | ⟨hb10, hj2⟩
        · refine SWp.condT' (b := kind1 == 14) (by simp) hb9 ?_
          refine SWp.skip ?_
          cases hj2
          exact hK3 _ () [] trivial (by simp [hN'])
        · refine SWp.condF' (b := kind1 == 14) (by simp) hb10 ?_
          refine SWp.seqR rfl (hPB _ rfl) fun K hK => ?_
          iterate 2 (refine wps_cons rfl fun K hK => ?_; simp [hN']; refine hK _ ?_; clear hK)
          refine wps_nil (hK _ ?_); clear hK
          rcases ite_or hj2 with ⟨hb11, hj2⟩ | ⟨hb12, hj2⟩
          · refine SWp.condT' (b := kind1 == 15) (by simp) hb11 ?_
            refine SWp.skip ?_
            cases hj2
            exact hK3 _ () [] trivial (by simp [hN'])
          · refine SWp.condF' (b := kind1 == 15) (by simp) hb12 ?_
            refine SWp.seqR rfl (hPB _ rfl) fun K hK => ?_
            iterate 2 (refine wps_cons rfl fun K hK => ?_; simp [hN']; refine hK _ ?_; clear hK)
            refine wps_nil (hK _ ?_); clear hK
            rcases ite_or hj2 with ⟨hb13, hj2⟩ | ⟨hb14, hj2⟩
            · refine SWp.condT' (b := kind1 == 18) (by simp) hb13 ?_
              refine SWp.skip ?_
              cases hj2
              exact hK3 _ () [] trivial (by simp [hN'])
            · refine SWp.condF' (b := kind1 == 18) (by simp) hb14 ?_
              refine SWp.reg rfl (hPB _ rfl) fun K hK => ?_
              iterate 2 (refine wps_cons rfl fun K hK => ?_; simp [hN']; refine hK _ ?_; clear hK)
              refine wps_nil (hK _ ?_); clear hK
              cases hj2
              exact hK3 _ () [] trivial (by simp [hN'])
  rcases ite_or h with ⟨hb16, h⟩ | ⟨hb17, h⟩
  · refine SWp.condT' (b := v15) (by simp) hb16 ?_
    refine SWp.seqR rfl (hPB _ rfl) fun K hK => ?_
    iterate 2 (refine wps_cons rfl fun K hK => ?_; simp [hN']; refine hK _ ?_; clear hK)
    refine wps_nil (hK _ ?_); clear hK
    cases h
    refine SWp.ret ?_
    simp [thenS, inBlockS, res130]
  · refine SWp.condF' (b := v15) (by simp) hb17 ?_
    obtain ⟨v27, hj18, h⟩ := bind_some h
    refine SWp.seqC [4, 12] [] (fun _ : Unit => ⟨[(4, .t (vi kind1)), (12, .t (vb v27))], []⟩) (fun _ => True) (fun _ _ => ?_) fun K19 hK19 => ?_
    rotate_left
    · refine SWp.seqR rfl (hPB _ rfl) fun K hK => ?_
      iterate 2 (refine wps_cons rfl fun K hK => ?_; simp [hN']; refine hK _ ?_; clear hK)
      refine wps_nil (hK _ ?_); clear hK
      rcases ite_or hj18 with ⟨hb21, hj18⟩ | ⟨hb22, hj18⟩
      · refine SWp.condT' (b := kind1 == 9) (by simp) hb21 ?_
        refine SWp.skip ?_
        cases hj18
        exact hK19 _ () [] trivial (by simp [hN'])
      · refine SWp.condF' (b := kind1 == 9) (by simp) hb22 ?_
        refine SWp.seqR rfl (hPB _ rfl) fun K hK => ?_
        iterate 2 (refine wps_cons rfl fun K hK => ?_; simp [hN']; refine hK _ ?_; clear hK)
        refine wps_nil (hK _ ?_); clear hK
        rcases ite_or hj18 with ⟨hb23, hj18⟩ | ⟨hb24, hj18⟩
        · refine SWp.condT' (b := kind1 == 10) (by simp) hb23 ?_
          refine SWp.skip ?_
          cases hj18
          exact hK19 _ () [] trivial (by simp [hN'])
        · refine SWp.condF' (b := kind1 == 10) (by simp) hb24 ?_
          refine SWp.seqR rfl (hPB _ rfl) fun K hK => ?_
          iterate 2 (refine wps_cons rfl fun K hK => ?_; simp [hN']; refine hK _ ?_; clear hK)
          refine wps_nil (hK _ ?_); clear hK
          rcases ite_or hj18 with ⟨hb25, hj18⟩ | ⟨hb26, hj18⟩
          · refine SWp.condT' (b := kind1 == 11) (by simp) hb25 ?_
            refine SWp.skip ?_
            cases hj18
            exact hK19 _ () [] trivial (by simp [hN'])
          · refine SWp.condF' (b := kind1 == 11) (by simp) hb26 ?_
            refine SWp.reg rfl (hPB _ rfl) fun K hK => ?_
            iterate 2 (refine wps_cons rfl fun K hK => ?_; simp [hN']; refine hK _ ?_; clear hK)
            refine wps_nil (hK _ ?_); clear hK
            cases hj18
            exact hK19 _ () [] trivial (by simp [hN'])
    rcases ite_or h with ⟨hb28, h⟩ | ⟨hb29, h⟩
    · refine SWp.condT' (b := v27) (by simp) hb28 ?_
      refine SWp.seqR rfl (hPB _ rfl) fun K hK => ?_
      iterate 2 (refine wps_cons rfl fun K hK => ?_; simp [hN']; refine hK _ ?_; clear hK)
      refine wps_nil (hK _ ?_); clear hK
      cases h
      refine SWp.ret ?_
      simp [thenS, inBlockS, res130]
    · refine SWp.condF' (b := v27) (by simp) hb29 ?_
      refine SWp.seqR rfl (hPB _ rfl) fun K hK => ?_
      iterate 2 (refine wps_cons rfl fun K hK => ?_; simp [hN']; refine hK _ ?_; clear hK)
      refine wps_nil (hK _ ?_); clear hK
      rcases ite_or h with ⟨hb30, h⟩ | ⟨hb31, h⟩
      · refine SWp.condT' (b := kind1 == 16) (by simp) hb30 ?_
        refine SWp.seqR rfl (hPB _ rfl) fun K hK => ?_
        iterate 2 (refine wps_cons rfl fun K hK => ?_; simp [hN']; refine hK _ ?_; clear hK)
        refine wps_nil (hK _ ?_); clear hK
        cases h
        refine SWp.ret ?_
        simp [thenS, inBlockS, res130]
      · refine SWp.condF' (b := kind1 == 16) (by simp) hb31 ?_
        refine SWp.seqR rfl (hPB _ rfl) fun K hK => ?_
        iterate 2 (refine wps_cons rfl fun K hK => ?_; simp [hN']; refine hK _ ?_; clear hK)
        refine wps_nil (hK _ ?_); clear hK
        rcases ite_or h with ⟨hb32, h⟩ | ⟨hb33, h⟩
        · refine SWp.condT' (b := kind1 == 12) (by simp) hb32 ?_
          refine SWp.seqR rfl (hPB _ rfl) fun K hK => ?_
          iterate 2 (refine wps_cons rfl fun K hK => ?_; simp [hN']; refine hK _ ?_; clear hK)
          refine wps_nil (hK _ ?_); clear hK
          cases h
          refine SWp.ret ?_
          simp [thenS, inBlockS, res130]
        · refine SWp.condF' (b := kind1 == 12) (by simp) hb33 ?_
          refine SWp.seqR rfl (hPB _ rfl) fun K hK => ?_
          iterate 2 (refine wps_cons rfl fun K hK => ?_; simp [hN']; refine hK _ ?_; clear hK)
          refine wps_nil (hK _ ?_); clear hK
          rcases ite_or h with ⟨hb34, h⟩ | ⟨hb35, h⟩
          · refine SWp.condT' (b := kind1 == 20) (by simp) hb34 ?_
            refine SWp.seqR rfl (hPB _ rfl) fun K hK => ?_
            iterate 2 (refine wps_cons rfl fun K hK => ?_; simp [hN']; refine hK _ ?_; clear hK)
            refine wps_nil (hK _ ?_); clear hK
            cases h
            refine SWp.ret ?_
            simp [thenS, inBlockS, res130]
          · refine SWp.condF' (b := kind1 == 20) (by simp) hb35 ?_
            refine SWp.skip ?_
            show SWp E C _ _ _
            refine SWp.seqR rfl (hPB _ rfl) fun K hK => ?_
            iterate 2 (refine wps_cons rfl fun K hK => ?_; simp [hN']; refine hK _ ?_; clear hK)
            refine wps_nil (hK _ ?_); clear hK
            cases h
            refine SWp.ret ?_
            simp [thenS, inBlockS, res130]
end Go.Proofs.T
set_option linter.unusedVariables false
set_option linter.unusedSimpArgs false
set_option maxHeartbeats 1000000
namespace Go.Proofs.T
open Go.OM
theorem res67 : Tryd.f67.results.toList = [.tmp 2] := rfl
theorem ent67 : Enters E.P 67 := enters_of Tryd.func67 (by simp [Tryd.f67]) rfl
theorem impl_isStep_ok (kind1 : Int) {r0 : Bool} (h : impl_isStep kind1 = some r0) : Ok E 67 [.val (vi kind1)] [vb r0] [] := by
  refine ok_of_body (fn := Tryd.f67) Tryd.func67 rfl (by simp [Tryd.f67]) fun C hN hP => ?_
  have hPB : ∀ l, pinK [] l = true → pinB C.pin l = true := pinB_of (by rw [hP]; rfl)
  have hN' : C.N = 5 := hN
  clear hN
  unfold impl_isStep at h
  refine SWp.seqR rfl (hPB _ rfl) fun K hK => ?_
  refine wps_cons rfl fun K hK => ?_; simp [hN']; refine hK _ ?_; clear hK
  refine wps_nil (hK _ ?_); clear hK
  refine SWp.seqR rfl (hPB _ rfl) fun K hK => ?_
  refine wps_cons rfl fun K hK => ?_; simp [hN']; refine hK _ ?_; clear hK
  obtain ⟨r2, hc3, h⟩ := bind_some h
  refine wps_call [(.take, .tmp 3), (.take, .const (.int .i64 13)), (.take, .const (.int .i64 19))] rfl rfl ent91 (impl_in_ok _ _ _ hc3) fun K hK => ?_; simp [hN']; refine hK _ ?_; clear hK
  refine wps_cons rfl fun K hK => ?_; simp [hN']; refine hK _ ?_; clear hK
  refine wps_nil (hK _ ?_); clear hK
  cases h
  refine SWp.ret ?_
  simp [thenS, inBlockS, res67]
end Go.Proofs.T
set_option linter.unusedVariables false
set_option linter.unusedSimpArgs false
set_option maxHeartbeats 1000000
namespace Go.Proofs.T
open Go.OM
theorem res68 : Tryd.f68.results.toList = [.tmp 2] := rfl
theorem ent68 : Enters E.P 68 := enters_of Tryd.func68 (by simp [Tryd.f68]) rfl
theorem impl_isValue_ok (kind1 : Int) {r0 : Bool} (h : impl_isValue kind1 = some r0) : Ok E 68 [.val (vi kind1)] [vb r0] [] := by
  refine ok_of_body (fn := Tryd.f68) Tryd.func68 rfl (by simp [Tryd.f68]) fun C hN hP => ?_
  have hPB : ∀ l, pinK [] l = true → pinB C.pin l = true := pinB_of (by rw [hP]; rfl)
  have hN' : C.N = 5 := hN
  clear hN
  unfold impl_isValue at h
  refine SWp.seqR rfl (hPB _ rfl) fun K hK => ?_
  refine wps_cons rfl fun K hK => ?_; simp [hN']; refine hK _ ?_; clear hK
  refine wps_nil (hK _ ?_); clear hK
  refine SWp.seqR rfl (hPB _ rfl) fun K hK => ?_
  refine wps_cons rfl fun K hK => ?_; simp [hN']; refine hK _ ?_; clear hK
  obtain ⟨r2, hc3, h⟩ := bind_some h
  refine wps_call [(.take, .tmp 3), (.take, .const (.int .i64 1)), (.take, .const (.int .i64 12))] rfl rfl ent91 (impl_in_ok _ _ _ hc3) fun K hK => ?_; simp [hN']; refine hK _ ?_; clear hK
  refine wps_cons rfl fun K hK => ?_; simp [hN']; refine hK _ ?_; clear hK
  refine wps_nil (hK _ ?_); clear hK
  cases h
  refine SWp.ret ?_
  simp [thenS, inBlockS, res68]
end Go.Proofs.T
set_option linter.unusedVariables false
set_option linter.unusedSimpArgs false
set_option maxHeartbeats 1000000
namespace Go.Proofs.T
open Go.OM
theorem res131 : Tryd.f131.results.toList = [.tmp 6] := rfl
theorem ent131 : Enters E.P 131 := enters_of Tryd.func131 (by simp [Tryd.f131]) rfl
theorem impl_kidFits_ok (kind1 : Int) (i2 : Int) (kid3 : Int) {r0 : Bool} (h : impl_kidFits kind1 i2 kid3 = some r0) : Ok E 131 [.val (vi kind1), .val (vi i2), .val (vi kid3)] [vb r0] [] := by
  refine ok_of_body (fn := Tryd.f131) Tryd.func131 rfl (by simp [Tryd.f131]) fun C hN hP => ?_
  have hPB : ∀ l, pinK [] l = true → pinB C.pin l = true := pinB_of (by rw [hP]; rfl)
  have hN' : C.N = 32 := hN
  clear hN
  unfold impl_kidFits at h
  refine SWp.seqR rfl (hPB _ rfl) fun K hK => ?_
  refine wps_cons rfl fun K hK => ?_; simp [hN']; refine hK _ ?_; clear hK
  refine wps_nil (hK _ ?_); clear hK
  refine SWp.seq ?_
  refine SWp.block ?_
  refine SWp.seqR rfl (hPB _ rfl) fun K hK => ?_
  iterate 3 (refine wps_cons rfl fun K hK => ?_; simp [hN']; refine hK _ ?_; clear hK)
  refine wps_nil (hK _ ?_); clear hK
  rcases ite_or h with ⟨hb4, h⟩ | ⟨hb5, h⟩
  · refine SWp.condT' (b := kind1 == 20) (by simp) hb4 ?_
    refine SWp.seqR rfl (hPB _ rfl) fun K hK => ?_
    refine wps_cons rfl fun K hK => ?_; simp [hN']; refine hK _ ?_; clear hK
    obtain ⟨r6, hc7, h⟩ := bind_some h
    refine wps_call [(.take, .tmp 10)] rfl rfl ent67 (impl_isStep_ok _ hc7) fun K hK => ?_; simp [hN']; refine hK _ ?_; clear hK
    refine wps_cons rfl fun K hK => ?_; simp [hN']; refine hK _ ?_; clear hK
    refine wps_nil (hK _ ?_); clear hK
    cases h
    refine SWp.ret ?_
    simp [thenS, inBlockS, res131]
  · refine SWp.condF' (b := kind1 == 20) (by simp) hb5 ?_
    obtain ⟨v14, hj8, h⟩ := bind_some h
    refine SWp.seqRC rfl (hPB _ rfl) [0, 2, 12] [] (fun _ : Unit => ⟨[(0, .t (vi kind1)), (2, .t (vi kid3)), (12, .t (vb v14))], []⟩) (fun _ => True) (fun _ _ => ?_) fun K9 hK9 => ?_
    rotate_left
    · refine wps_cons rfl fun K hK => ?_; simp [hN']; refine hK _ ?_; clear hK
      iterate 2 (refine wps_cons rfl fun K hK => ?_; simp [hN']; refine hK _ ?_; clear hK)
      rcases ite_or hj8 with ⟨hb10, hj8⟩ | ⟨hb11, hj8⟩
      · have hb10s := hb10
        try simp at hb10s
        iterate 2 (refine wps_off fun K hK => ?_; simp [hN', hb10, hb10s]; refine hK _ ?_; clear hK)
        iterate 6 (refine wps_cons rfl fun K hK => ?_; simp [hN', hb10, hb10s]; refine hK _ ?_; clear hK)
        refine wps_nil ?_
        cases hj8
        exact hK9 _ () [] trivial (by simp [hN', hb10, hb10s])
      · have hb11s := hb11
        try simp at hb11s
        iterate 4 (refine wps_cons rfl fun K hK => ?_; simp [hN', hb11, hb11s]; refine hK _ ?_; clear hK)
        rcases ite_or hj8 with ⟨hb12, hj8⟩ | ⟨hb13, hj8⟩
        · have hb12s := hb12
          try simp at hb12s
          iterate 4 (refine wps_cons rfl fun K hK => ?_; simp [hN', hb11, hb11s, hb12, hb12s]; refine hK _ ?_; clear hK)
          refine wps_nil ?_
          cases hj8
          exact hK9 _ () [] trivial (by simp [hN', hb11, hb11s, hb12, hb12s])
        · have hb13s := hb13
          try simp at hb13s
          iterate 2 (refine wps_off fun K hK => ?_; simp [hN', hb11, hb11s, hb13, hb13s]; refine hK _ ?_; clear hK)
          iterate 2 (refine wps_cons rfl fun K hK => ?_; simp [hN', hb11, hb11s, hb13, hb13s]; refine hK _ ?_; clear hK)
          refine wps_nil ?_
          cases hj8
          exact hK9 _ () [] trivial (by simp [hN', hb11, hb11s, hb13, hb13s])
    rcases ite_or h with ⟨hb15, h⟩ | ⟨hb16, h⟩
    · refine SWp.condT' (b := v14) (by simp) hb15 ?_
      refine SWp.seqR rfl (hPB _ rfl) fun K hK => ?_
      iterate 3 (refine wps_cons rfl fun K hK => ?_; simp [hN']; refine hK _ ?_; clear hK)
      refine wps_nil (hK _ ?_); clear hK
      cases h
      refine SWp.ret ?_
      simp [thenS, inBlockS, res131]
    · refine SWp.condF' (b := v14) (by simp) hb16 ?_
      refine SWp.seqR rfl (hPB _ rfl) fun K hK => ?_
      iterate 3 (refine wps_cons rfl fun K hK => ?_; simp [hN']; refine hK _ ?_; clear hK)
      refine wps_nil (hK _ ?_); clear hK
      rcases ite_or h with ⟨hb17, h⟩ | ⟨hb18, h⟩
      · refine SWp.condT' (b := kind1 == 19) (by simp) hb17 ?_
        refine SWp.seqR rfl (hPB _ rfl) fun K hK => ?_
        iterate 3 (refine wps_cons rfl fun K hK => ?_; simp [hN']; refine hK _ ?_; clear hK)
        refine wps_nil (hK _ ?_); clear hK
        cases h
        refine SWp.ret ?_
        simp [thenS, inBlockS, res131]
      · refine SWp.condF' (b := kind1 == 19) (by simp) hb18 ?_
        refine SWp.skip ?_
        show SWp E C _ _ _
        refine SWp.seqR rfl (hPB _ rfl) fun K hK => ?_
        refine wps_cons rfl fun K hK => ?_; simp [hN']; refine hK _ ?_; clear hK
        obtain ⟨r19, hc20, h⟩ := bind_some h
        refine wps_call [(.take, .tmp 30)] rfl rfl ent68 (impl_isValue_ok _ hc20) fun K hK => ?_; simp [hN']; refine hK _ ?_; clear hK
        refine wps_cons rfl fun K hK => ?_; simp [hN']; refine hK _ ?_; clear hK
        refine wps_nil (hK _ ?_); clear hK
        cases h
        refine SWp.ret ?_
        simp [thenS, inBlockS, res131]
end Go.Proofs.T
set_option linter.unusedVariables false
set_option linter.unusedSimpArgs false
set_option maxHeartbeats 1000000
namespace Go.Proofs.T
open Go.OM
theorem res132 : Tryd.f132.results.toList = [.tmp 2] := rfl
theorem ent132 : Enters E.P 132 := enters_of Tryd.func132 (by simp [Tryd.f132]) rfl
theorem impl_hasName_ok (kind1 : Int) {r0 : Bool} (h : impl_hasName kind1 = some r0) : Ok E 132 [.val (vi kind1)] [vb r0] [] := by
  refine ok_of_body (fn := Tryd.f132) Tryd.func132 rfl (by simp [Tryd.f132]) fun C hN hP => ?_
  have hPB : ∀ l, pinK [] l = true → pinB C.pin l = true := pinB_of (by rw [hP]; rfl)
  have hN' : C.N = 9 := hN
  clear hN
  unfold impl_hasName at h
  refine SWp.seqR rfl (hPB _ rfl) fun K hK => ?_
  refine wps_cons rfl fun K hK => ?_; simp [hN']; refine hK _ ?_; clear hK
  refine wps_nil (hK _ ?_); clear hK
  obtain ⟨v10, hj2, h⟩ := bind_some h
  refine SWp.seqRC rfl (hPB _ rfl) [2] [] (fun _ : Unit => ⟨[(2, .t (vb v10))], []⟩) (fun _ => True) (fun _ _ => ?_) fun K3 hK3 => ?_
  rotate_left
  · refine wps_cons rfl fun K hK => ?_; simp [hN']; refine hK _ ?_; clear hK
    obtain ⟨r4, hc5, hj2⟩ := bind_some hj2
    refine wps_call [(.take, .tmp 3), (.take, .const (.int .i64 2)), (.take, .const (.int .i64 6))] rfl rfl ent91 (impl_in_ok _ _ _ hc5) fun K hK => ?_; simp [hN']; refine hK _ ?_; clear hK
    refine wps_cons rfl fun K hK => ?_; simp [hN']; refine hK _ ?_; clear hK
    rcases ite_or hj2 with ⟨hb6, hj2⟩ | ⟨hb7, hj2⟩
    · have hb6s := hb6
      try simp at hb6s
      iterate 2 (refine wps_off fun K hK => ?_; simp [hN', hb6, hb6s]; refine hK _ ?_; clear hK)
      iterate 2 (refine wps_cons rfl fun K hK => ?_; simp [hN', hb6, hb6s]; refine hK _ ?_; clear hK)
      refine wps_nil ?_
      cases hj2
      exact hK3 _ () [] trivial (by simp [hN', hb6, hb6s])
    · have hb7s := hb7
      try simp at hb7s
      refine wps_cons rfl fun K hK => ?_; simp [hN', hb7, hb7s]; refine hK _ ?_; clear hK
      obtain ⟨r8, hc9, hj2⟩ := bind_some hj2
      refine wps_call [(.take, .tmp 6), (.take, .const (.int .i64 12)), (.take, .const (.int .i64 15))] rfl rfl ent91 (impl_in_ok _ _ _ hc9) fun K hK => ?_; simp [hN', hb7, hb7s]; refine hK _ ?_; clear hK
      iterate 2 (refine wps_cons rfl fun K hK => ?_; simp [hN', hb7, hb7s]; refine hK _ ?_; clear hK)
      refine wps_nil ?_
      cases hj2
      exact hK3 _ () [] trivial (by simp [hN', hb7, hb7s])
  cases h
  refine SWp.ret ?_
  simp [thenS, inBlockS, res132]
end Go.Proofs.T
set_option linter.unusedVariables false
set_option linter.unusedSimpArgs false
set_option maxHeartbeats 1000000
namespace Go.Proofs.T
open Go.OM
theorem res109 : Tryd.f109.results.toList = [.tmp 4] := rfl
theorem ent109 : Enters E.P 109 := enters_of Tryd.func109 (by simp [Tryd.f109]) rfl
theorem impl_NodeOk_ok (nodes1 : List GNode) (k2 : Int) {r0 : Bool} (h : impl_NodeOk nodes1 k2 = some r0) : Ok E 109 [.val (.sl false 4 (List.map (GNode.enc false) nodes1)), .val (vi k2)] [vb r0] [] := by
  refine ok_of_body (fn := Tryd.f109) Tryd.func109 rfl (by simp [Tryd.f109]) fun C hN hP => ?_
  have hPB : ∀ l, pinK [] l = true → pinB C.pin l = true := pinB_of (by rw [hP]; rfl)
  have hN' : C.N = 101 := hN
  clear hN
  unfold impl_NodeOk at h
  refine SWp.seqR rfl (hPB _ rfl) fun K hK => ?_
  refine wps_cons rfl fun K hK => ?_; simp [hN']; refine hK _ ?_; clear hK
  refine wps_nil (hK _ ?_); clear hK
  refine SWp.seq ?_
  refine SWp.seqR rfl (hPB _ rfl) fun K hK => ?_
  iterate 4 (refine wps_cons rfl fun K hK => ?_; simp [hN']; refine hK _ ?_; clear hK)
  obtain ⟨r3, hc4, h⟩ := bind_some h
  refine wps_call [(.take, .tmp 10), (.take, .const (.int .i64 0)), (.take, .tmp 13)] rfl rfl ent91 (impl_in_ok _ _ _ hc4) fun K hK => ?_; simp [hN']; refine hK _ ?_; clear hK
  refine wps_cons rfl fun K hK => ?_; simp [hN']; refine hK _ ?_; clear hK
  refine wps_nil (hK _ ?_); clear hK
  rcases ite_or h with ⟨hb5, h⟩ | ⟨hb6, h⟩
  · refine SWp.condT' (b := !r3) (by simp) hb5 ?_
    refine SWp.seqR rfl (hPB _ rfl) fun K hK => ?_
    refine wps_cons rfl fun K hK => ?_; simp [hN']; refine hK _ ?_; clear hK
    refine wps_nil (hK _ ?_); clear hK
    cases h
    refine SWp.ret ?_
    simp [thenS, inBlockS, res109]
  · refine SWp.condF' (b := !r3) (by simp) hb6 ?_
    refine SWp.skip ?_
    show SWp E C _ _ _
    refine SWp.seqR rfl (hPB _ rfl) fun K hK => ?_
    iterate 2 (refine wps_cons rfl fun K hK => ?_; simp [hN']; refine hK _ ?_; clear hK)
    obtain ⟨e7, he7, h⟩ := bind_some h
    obtain ⟨he7a, he7b, he7c, he7d⟩ := getI_some he7
    iterate 4 (refine wps_cons rfl fun K hK => ?_; simp [hN', he7a, he7b, he7c, he7d]; refine hK _ ?_; clear hK)
    refine wps_nil (hK _ ?_); clear hK
    refine SWp.seqR rfl (hPB _ rfl) fun K hK => ?_
    iterate 2 (refine wps_cons rfl fun K hK => ?_; simp [hN']; refine hK _ ?_; clear hK)
    obtain ⟨⟨r8, r9⟩, hc10, h⟩ := bind_some h
    try dsimp only at h
    refine wps_call [(.take, .tmp 22)] rfl rfl ent130 (impl_shape_ok _ hc10) fun K hK => ?_; simp [hN']; refine hK _ ?_; clear hK
    iterate 5 (refine wps_cons rfl fun K hK => ?_; simp [hN']; refine hK _ ?_; clear hK)
    refine wps_nil (hK _ ?_); clear hK
    refine SWp.seq ?_
    obtain ⟨v19, hj11, h⟩ := bind_some h
    refine SWp.seqRC rfl (hPB _ rfl) [0, 1, 5, 38] [5] (fun _ : Unit => ⟨[(0, .t (.sl false 4 (List.map (GNode.enc false) nodes1))), (1, .t (vi k2)), (5, .ref (.box 5) 0 []), (38, .t (vb v19))], [(5, [vi e7.Kind, vi e7.Num, vs e7.Name, .sl false 1 (List.map vi e7.Kids)])]⟩) (fun _ => True) (fun _ _ => ?_) fun K12 hK12 => ?_
    rotate_left
    · refine wps_cons rfl fun K hK => ?_; simp [hN']; refine hK _ ?_; clear hK
      refine wps_cons rfl fun K hK => ?_; simp [hN']; refine hK _ ?_; clear hK
      obtain ⟨r13, hc14, hj11⟩ := bind_some hj11
      refine wps_call [(.take, .tmp 27), (.take, .const (.int .i64 1)), (.take, .const (.int .i64 20))] rfl rfl ent91 (impl_in_ok _ _ _ hc14) fun K hK => ?_; simp [hN']; refine hK _ ?_; clear hK
      iterate 2 (refine wps_cons rfl fun K hK => ?_; simp [hN']; refine hK _ ?_; clear hK)
      rcases ite_or hj11 with ⟨hb15, hj11⟩ | ⟨hb16, hj11⟩
      · have hb15s := hb15
        try simp at hb15s
        iterate 7 (refine wps_off fun K hK => ?_; simp [hN', hb15, hb15s]; refine hK _ ?_; clear hK)
        refine wps_cons rfl fun K hK => ?_; simp [hN', hb15, hb15s]; refine hK _ ?_; clear hK
        refine wps_nil ?_
        cases hj11
        exact hK12 _ () [] trivial (by simp [hN', hb15, hb15s])
      · have hb16s := hb16
        try simp at hb16s
        iterate 5 (refine wps_cons rfl fun K hK => ?_; simp [hN', hb16, hb16s]; refine hK _ ?_; clear hK)
        obtain ⟨r17, hc18, hj11⟩ := bind_some hj11
        refine wps_call [(.take, .tmp 33), (.take, .tmp 34), (.take, .tmp 35)] rfl rfl ent91 (impl_in_ok _ _ _ hc18) fun K hK => ?_; simp [hN', hb16, hb16s]; refine hK _ ?_; clear hK
        iterate 2 (refine wps_cons rfl fun K hK => ?_; simp [hN', hb16, hb16s]; refine hK _ ?_; clear hK)
        refine wps_nil ?_
        cases hj11
        exact hK12 _ () [] trivial (by simp [hN', hb16, hb16s])
    rcases ite_or h with ⟨hb20, h⟩ | ⟨hb21, h⟩
    · refine SWp.condT' (b := v19) (by simp) hb20 ?_
      refine SWp.seqR rfl (hPB _ rfl) fun K hK => ?_
      refine wps_cons rfl fun K hK => ?_; simp [hN']; refine hK _ ?_; clear hK
      refine wps_nil (hK _ ?_); clear hK
      cases h
      refine SWp.ret ?_
      simp [thenS, inBlockS, res109]
    · refine SWp.condF' (b := v19) (by simp) hb21 ?_
      refine SWp.skip ?_
      show SWp E C _ _ _
      obtain ⟨j24, hj22, h⟩ := bind_some h
      refine SWp.seqC [5] [5] (fun v : Unit => ⟨[(5, .ref (.box 5) 0 [])], [(5, [vi e7.Kind, vi e7.Num, vs e7.Name, .sl false 1 (List.map vi e7.Kids)])]⟩) (fun v => j24 = Sum.inl v) (fun v hv => ?_) fun K23 hK23 => ?_
      rotate_left
      · refine SWp.seqR rfl (hPB _ rfl) fun K hK => ?_
        iterate 4 (refine wps_cons rfl fun K hK => ?_; simp [hN']; refine hK _ ?_; clear hK)
        refine wps_nil (hK _ ?_); clear hK
        refine SWp.block ?_
        refine SWp.loopO [] [0, 1, 5, 40, 41, 42] [5] (fun v : Int => ⟨[(0, .t (.sl false 4 (List.map (GNode.enc false) nodes1))), (1, .t (vi k2)), (5, .ref (.box 5) 0 []), (40, .t (.sl false 1 (List.map vi e7.Kids))), (41, .t (vi (e7.Kids.length : Int))), (42, .t (vi v))], [(5, [vi e7.Kind, vi e7.Num, vs e7.Name, .sl false 1 (List.map vi e7.Kids)])]⟩) (impl_NodeOk_l1 nodes1 k2 e7) _ 0 hj22 (by simp [hN']) ?_
        intro g s28 h26 ho27
        obtain ⟨v25, hg⟩ : ∃ y, y = g := ⟨_, rfl⟩
        subst hg
        simp only [impl_NodeOk_l1] at h26
        try dsimp only
        refine SWp.seqR rfl (hPB _ rfl) fun K hK => ?_
        refine wps_cons rfl fun K hK => ?_; simp [hN']; refine hK _ ?_; clear hK
        refine wps_nil (hK _ ?_); clear hK
        refine SWp.seq ?_
        rcases ite_or h26 with ⟨hb29, h26⟩ | ⟨hb30, h26⟩
        · refine SWp.condT' (b := decide (v25 < (e7.Kids.length : Int))) (by simp) hb29 ?_
          refine SWp.skip ?_
          show SWp E C _ _ _
          refine SWp.seq ?_
          refine SWp.block ?_
          refine SWp.seqR rfl (hPB _ rfl) fun K hK => ?_
          refine wps_cons rfl fun K hK => ?_; simp [hN']; refine hK _ ?_; clear hK
          obtain ⟨e31, he31, h26⟩ := bind_some h26
          obtain ⟨he31a, he31b, he31c, he31d⟩ := getI_some he31
          iterate 4 (refine wps_cons rfl fun K hK => ?_; simp [hN', he31a, he31b, he31c, he31d]; refine hK _ ?_; clear hK)
          refine wps_nil (hK _ ?_); clear hK
          obtain ⟨v46, hj32, h26⟩ := bind_some h26
          refine SWp.seqC [0, 1, 5, 40, 41, 42, 71] [5] (fun _ : Unit => ⟨[(0, .t (.sl false 4 (List.map (GNode.enc false) nodes1))), (1, .t (vi k2)), (5, .ref (.box 5) 0 []), (40, .t (.sl false 1 (List.map vi e7.Kids))), (41, .t (vi (e7.Kids.length : Int))), (42, .t (vi v25)), (71, .t (vb v46))], [(5, [vi e7.Kind, vi e7.Num, vs e7.Name, .sl false 1 (List.map vi e7.Kids)])]⟩) (fun _ => True) (fun _ _ => ?_) fun K33 hK33 => ?_
          rotate_left
          · obtain ⟨r34, hc35, hj32⟩ := bind_some hj32
            rcases ite_or hj32 with ⟨hb36, hj32⟩ | ⟨hb37, hj32⟩
            · have hb36s := hb36
              try simp at hb36s
              refine SWp.drawT rfl (hPB _ rfl) [(47, .t (vi e31)), (48, .t (vi k2)), (49, .t (vi (IntKind.wrap .i64 (k2 - 1)))), (50, .t (vb r34)), (51, .t (vb (!r34))), (52, .t (vb (!r34))), (53, .tup []), (54, .tup []), (55, .tup []), (56, .tup []), (57, .tup []), (58, .tup []), (59, .t (vb true)), (60, .t (vb true)), (61, .tup []), (62, .tup []), (63, .tup []), (64, .tup []), (65, .tup []), (66, .tup []), (67, .tup []), (68, .tup [])] [[], [], [1], [0, 1, 2], [0, 1, 2, 3], [0, 1, 2, 3, 4], [0, 1, 2, 3, 4, 5], [0, 1, 2, 3, 4, 5, 6], [0, 1, 2, 3, 4, 5], [0, 1, 2, 3, 4, 5, 6, 7, 8], [0, 1, 2, 3, 4, 5], [0, 1, 2, 3, 4, 5, 6, 7, 8, 9, 10], [0, 1, 2, 3, 4, 5, 6, 7, 8, 9, 10, 11], [0, 1, 2, 3, 4, 5, 6, 7, 8, 9, 10, 11, 12], [0, 1, 2, 3, 4, 5, 6, 7, 8, 9, 10, 11, 12, 13], [0, 1, 2, 3, 4, 5, 6, 7, 8, 9, 10, 11, 12, 13, 14], [0, 1, 2, 3, 4, 5, 6, 7, 8, 9, 10, 11, 12, 13], [0, 1, 2, 3, 4, 5, 6, 7, 8, 9, 10, 11, 12, 13], [0, 1, 2, 3, 4, 5, 6, 7, 8, 9, 10, 11, 12, 13], [0, 1, 2, 3, 4, 5, 6, 7, 8, 9, 10, 11, 12, 13, 17, 18], [0, 1, 2, 3, 4, 5, 6, 7, 8, 9, 10, 11, 12, 13, 17, 18, 19], [0, 1, 2, 3, 4, 5, 6, 7, 8, 9, 10, 11, 12, 13, 17, 18, 19, 20], [0, 1, 2, 3, 4, 5, 6, 7, 8, 9, 10, 11, 12, 13, 14, 15, 16, 17, 18, 19, 20, 21], [0, 1, 2, 3, 4, 5, 6, 7, 8, 9, 10, 11, 12, 13, 14, 15, 16, 17, 18, 19, 20, 21, 22], [0, 1, 2, 3, 4, 5, 6, 7, 8, 9, 10, 11, 12, 13, 14, 15, 16, 17, 18, 19, 20, 21, 22, 23]] (by simp) (by simp) (by simp [look]) rfl rfl rfl ?_ fun K hK => ?_
              · refine ⟨?_, ?_, ?_, ?_, ?_, ?_, ?_, ?_, ?_, ?_, ?_, ?_, ?_, ?_, ?_, ?_, ?_, ?_, ?_, ?_, ?_, ?_, trivial⟩
                all_goals (intro τ hbx hb hd hf K hK; try simp [vsAt] at hd; simp [vsAt] at hf; first | (refine wps_cons rfl fun K' hK' => ?_; simp [hN', hbx, hb, hd, hf, hb36, hb36s]; exact hK' _ (wps_nil (hK _ (by simp [vsAt, hbx, hb36, hb36s])))) | (refine wps_call [(.take, .tmp 47), (.take, .const (.int .i64 0)), (.take, .tmp 49)] rfl rfl ent91 (impl_in_ok _ _ _ hc35) fun K' hK' => ?_; simp [hN', hbx, hb, hd, hf, hb36, hb36s]; exact hK' _ (wps_nil (hK _ (by simp [vsAt, hbx, hb36, hb36s])))) | (refine wps_off fun K' hK' => ?_; simp [hN', hbx, hb, hd, hf, hb36, hb36s]; exact hK' _ (wps_nil (hK _ (by simp [vsAt, hbx, hb36, hb36s])))))
              iterate 2 (refine wps_off fun K hK => ?_; simp [hN', hb36, hb36s]; refine hK _ ?_; clear hK)
              refine wps_cons rfl fun K hK => ?_; simp [hN', hb36, hb36s]; refine hK _ ?_; clear hK
              refine wps_nil (hK _ ?_); clear hK
              cases hj32
              exact hK33 _ () [] trivial (by simp [hN', hb36, hb36s])
            · have hb37s := hb37
              try simp at hb37s
              obtain ⟨l38, hl38, hj32⟩ := bind_some hj32
              obtain ⟨hl38a, hl38b, hl38c, hl38d, hl38e, hl38g, hl38i, hl38j⟩ := subI_some hl38
              have hl38f : (List.map vi e7.Kids).take v25.toNat = List.map vi l38 := by subst hl38e; simp
              have hl38m := hl38f; try simp at hl38m
              have hl38k : 0 ≤ e7.Kids.length := by omega
              obtain ⟨r39, hc40, hj32⟩ := bind_some hj32
              rcases ite_or hj32 with ⟨hb41, hj32⟩ | ⟨hb42, hj32⟩
              · have hb41s := hb41
                try simp at hb41s
                refine SWp.drawT rfl (hPB _ rfl) [(47, .t (vi e31)), (48, .t (vi k2)), (49, .t (vi (IntKind.wrap .i64 (k2 - 1)))), (50, .t (vb r34)), (51, .t (vb (!r34))), (52, .t (vb (!r34))), (53, .ref (.box 5) 3 []), (54, .t (.sl false 1 (List.map vi e7.Kids))), (55, .t (vi v25)), (56, .t (.sl false 1 (List.map vi l38))), (57, .t (vi e31)), (58, .t (vb r39)), (59, .t (vb r39)), (60, .t (vb r39)), (61, .tup []), (62, .tup []), (63, .tup []), (64, .tup []), (65, .tup []), (66, .tup []), (67, .tup []), (68, .tup [])] [[], [], [1], [0, 1, 2], [0, 1, 2, 3], [0, 1, 2, 3, 4], [0, 1, 2, 3, 4, 5], [0, 1, 2, 3, 4, 5, 6], [0, 1, 2, 3, 4, 5], [0, 1, 2, 3, 4, 5, 6, 7, 8], [0, 1, 2, 3, 4, 5], [0, 1, 2, 3, 4, 5, 6, 7, 8, 9, 10], [0, 1, 2, 3, 4, 5, 6, 7, 8, 9, 10, 11], [0, 1, 2, 3, 4, 5, 6, 7, 8, 9, 10, 11, 12], [0, 1, 2, 3, 4, 5, 6, 7, 8, 9, 10, 11, 12, 13], [0, 1, 2, 3, 4, 5, 6, 7, 8, 9, 10, 11, 12, 13, 14], [0, 1, 2, 3, 4, 5, 6, 7, 8, 9, 10, 11, 12, 13], [0, 1, 2, 3, 4, 5, 6, 7, 8, 9, 10, 11, 12, 13], [0, 1, 2, 3, 4, 5, 6, 7, 8, 9, 10, 11, 12, 13], [0, 1, 2, 3, 4, 5, 6, 7, 8, 9, 10, 11, 12, 13, 17, 18], [0, 1, 2, 3, 4, 5, 6, 7, 8, 9, 10, 11, 12, 13, 17, 18, 19], [0, 1, 2, 3, 4, 5, 6, 7, 8, 9, 10, 11, 12, 13, 17, 18, 19, 20], [0, 1, 2, 3, 4, 5, 6, 7, 8, 9, 10, 11, 12, 13, 14, 15, 16, 17, 18, 19, 20, 21], [0, 1, 2, 3, 4, 5, 6, 7, 8, 9, 10, 11, 12, 13, 14, 15, 16, 17, 18, 19, 20, 21, 22], [0, 1, 2, 3, 4, 5, 6, 7, 8, 9, 10, 11, 12, 13, 14, 15, 16, 17, 18, 19, 20, 21, 22, 23]] (by simp) (by simp) (by simp [look]) rfl rfl rfl ?_ fun K hK => ?_
                · refine ⟨?_, ?_, ?_, ?_, ?_, ?_, ?_, ?_, ?_, ?_, ?_, ?_, ?_, ?_, ?_, ?_, ?_, ?_, ?_, ?_, ?_, ?_, trivial⟩
                  all_goals (intro τ hbx hb hd hf K hK; try simp [vsAt] at hd; simp [vsAt] at hf; first | (refine wps_cons rfl fun K' hK' => ?_; simp [hN', hbx, hb, hd, hf, hb37, hb37s, hl38a, hl38b, hl38c, hl38d, hl38f, hl38g, hl38i, hl38j, hl38m, hl38k, hb41, hb41s]; exact hK' _ (wps_nil (hK _ (by simp [vsAt, hbx, hb37, hb37s, hl38a, hl38b, hl38c, hl38d, hl38f, hl38g, hl38i, hl38j, hl38m, hl38k, hb41, hb41s])))) | (refine wps_call [(.take, .tmp 47), (.take, .const (.int .i64 0)), (.take, .tmp 49)] rfl rfl ent91 (impl_in_ok _ _ _ hc35) fun K' hK' => ?_; simp [hN', hbx, hb, hd, hf, hb37, hb37s, hl38a, hl38b, hl38c, hl38d, hl38f, hl38g, hl38i, hl38j, hl38m, hl38k, hb41, hb41s]; exact hK' _ (wps_nil (hK _ (by simp [vsAt, hbx, hb37, hb37s, hl38a, hl38b, hl38c, hl38d, hl38f, hl38g, hl38i, hl38j, hl38m, hl38k, hb41, hb41s])))) | (refine wps_call [(.take, .tmp 56), (.take, .tmp 57)] rfl rfl ent52 (impl_hasInt_ok _ _ hc40) fun K' hK' => ?_; simp [hN', hbx, hb, hd, hf, hb37, hb37s, hl38a, hl38b, hl38c, hl38d, hl38f, hl38g, hl38i, hl38j, hl38m, hl38k, hb41, hb41s]; exact hK' _ (wps_nil (hK _ (by simp [vsAt, hbx, hb37, hb37s, hl38a, hl38b, hl38c, hl38d, hl38f, hl38g, hl38i, hl38j, hl38m, hl38k, hb41, hb41s])))) | (refine wps_off fun K' hK' => ?_; simp [hN', hbx, hb, hd, hf, hb37, hb37s, hl38a, hl38b, hl38c, hl38d, hl38f, hl38g, hl38i, hl38j, hl38m, hl38k, hb41, hb41s]; exact hK' _ (wps_nil (hK _ (by simp [vsAt, hbx, hb37, hb37s, hl38a, hl38b, hl38c, hl38d, hl38f, hl38g, hl38i, hl38j, hl38m, hl38k, hb41, hb41s])))))
                iterate 2 (refine wps_off fun K hK => ?_; simp [hN', hb37, hb37s, hl38a, hl38b, hl38c, hl38d, hl38f, hl38g, hl38i, hl38j, hl38m, hl38k, hb41, hb41s]; refine hK _ ?_; clear hK)
                refine wps_cons rfl fun K hK => ?_; simp [hN', hb37, hb37s, hl38a, hl38b, hl38c, hl38d, hl38f, hl38g, hl38i, hl38j, hl38m, hl38k, hb41, hb41s]; refine hK _ ?_; clear hK
                refine wps_nil (hK _ ?_); clear hK
                cases hj32
                exact hK33 _ () [] trivial (by simp [hN', hb37, hb37s, hl38a, hl38b, hl38c, hl38d, hl38f, hl38g, hl38i, hl38j, hl38m, hl38k, hb41, hb41s])
              · have hb42s := hb42
                try simp at hb42s
                obtain ⟨e43, he43, hj32⟩ := bind_some hj32
                obtain ⟨he43a, he43b, he43c, he43d⟩ := getI_some he43
                refine SWp.drawT rfl (hPB _ rfl) [(47, .t (vi e31)), (48, .t (vi k2)), (49, .t (vi (IntKind.wrap .i64 (k2 - 1)))), (50, .t (vb r34)), (51, .t (vb (!r34))), (52, .t (vb (!r34))), (53, .ref (.box 5) 3 []), (54, .t (.sl false 1 (List.map vi e7.Kids))), (55, .t (vi v25)), (56, .t (.sl false 1 (List.map vi l38))), (57, .t (vi e31)), (58, .t (vb r39)), (59, .t (vb r39)), (60, .t (vb r39)), (61, .ref (.box 5) 0 []), (62, .t (vi e7.Kind)), (63, .t (vi v25)), (64, .t (.sl false 4 (List.map (GNode.enc false) nodes1))), (65, .t (vi e31)), (66, .rop [vi e43.Kind, vi e43.Num, vs e43.Name, .sl false 1 (List.map vi e43.Kids)] 0), (67, .rop [vi e43.Kind, vi e43.Num, vs e43.Name, .sl false 1 (List.map vi e43.Kids)] 0), (68, .t (vi e43.Kind))] [[], [], [1], [0, 1, 2], [0, 1, 2, 3], [0, 1, 2, 3, 4], [0, 1, 2, 3, 4, 5], [0, 1, 2, 3, 4, 5, 6], [0, 1, 2, 3, 4, 5], [0, 1, 2, 3, 4, 5, 6, 7, 8], [0, 1, 2, 3, 4, 5], [0, 1, 2, 3, 4, 5, 6, 7, 8, 9, 10], [0, 1, 2, 3, 4, 5, 6, 7, 8, 9, 10, 11], [0, 1, 2, 3, 4, 5, 6, 7, 8, 9, 10, 11, 12], [0, 1, 2, 3, 4, 5, 6, 7, 8, 9, 10, 11, 12, 13], [0, 1, 2, 3, 4, 5, 6, 7, 8, 9, 10, 11, 12, 13, 14], [0, 1, 2, 3, 4, 5, 6, 7, 8, 9, 10, 11, 12, 13], [0, 1, 2, 3, 4, 5, 6, 7, 8, 9, 10, 11, 12, 13], [0, 1, 2, 3, 4, 5, 6, 7, 8, 9, 10, 11, 12, 13], [0, 1, 2, 3, 4, 5, 6, 7, 8, 9, 10, 11, 12, 13, 17, 18], [0, 1, 2, 3, 4, 5, 6, 7, 8, 9, 10, 11, 12, 13, 17, 18, 19], [0, 1, 2, 3, 4, 5, 6, 7, 8, 9, 10, 11, 12, 13, 17, 18, 19, 20], [0, 1, 2, 3, 4, 5, 6, 7, 8, 9, 10, 11, 12, 13, 14, 15, 16, 17, 18, 19, 20, 21], [0, 1, 2, 3, 4, 5, 6, 7, 8, 9, 10, 11, 12, 13, 14, 15, 16, 17, 18, 19, 20, 21, 22], [0, 1, 2, 3, 4, 5, 6, 7, 8, 9, 10, 11, 12, 13, 14, 15, 16, 17, 18, 19, 20, 21, 22, 23]] (by simp) (by simp) (by simp [look]) rfl rfl rfl ?_ fun K hK => ?_
                · refine ⟨?_, ?_, ?_, ?_, ?_, ?_, ?_, ?_, ?_, ?_, ?_, ?_, ?_, ?_, ?_, ?_, ?_, ?_, ?_, ?_, ?_, ?_, trivial⟩
                  all_goals (intro τ hbx hb hd hf K hK; try simp [vsAt] at hd; simp [vsAt] at hf; first | (refine wps_cons rfl fun K' hK' => ?_; simp [hN', hbx, hb, hd, hf, hb37, hb37s, hl38a, hl38b, hl38c, hl38d, hl38f, hl38g, hl38i, hl38j, hl38m, hl38k, hb42, hb42s, he43a, he43b, he43c, he43d]; exact hK' _ (wps_nil (hK _ (by simp [vsAt, hbx, hb37, hb37s, hl38a, hl38b, hl38c, hl38d, hl38f, hl38g, hl38i, hl38j, hl38m, hl38k, hb42, hb42s, he43a, he43b, he43c, he43d])))) | (refine wps_call [(.take, .tmp 47), (.take, .const (.int .i64 0)), (.take, .tmp 49)] rfl rfl ent91 (impl_in_ok _ _ _ hc35) fun K' hK' => ?_; simp [hN', hbx, hb, hd, hf, hb37, hb37s, hl38a, hl38b, hl38c, hl38d, hl38f, hl38g, hl38i, hl38j, hl38m, hl38k, hb42, hb42s, he43a, he43b, he43c, he43d]; exact hK' _ (wps_nil (hK _ (by simp [vsAt, hbx, hb37, hb37s, hl38a, hl38b, hl38c, hl38d, hl38f, hl38g, hl38i, hl38j, hl38m, hl38k, hb42, hb42s, he43a, he43b, he43c, he43d])))) | (refine wps_call [(.take, .tmp 56), (.take, .tmp 57)] rfl rfl ent52 (impl_hasInt_ok _ _ hc40) fun K' hK' => ?_; simp [hN', hbx, hb, hd, hf, hb37, hb37s, hl38a, hl38b, hl38c, hl38d, hl38f, hl38g, hl38i, hl38j, hl38m, hl38k, hb42, hb42s, he43a, he43b, he43c, he43d]; exact hK' _ (wps_nil (hK _ (by simp [vsAt, hbx, hb37, hb37s, hl38a, hl38b, hl38c, hl38d, hl38f, hl38g, hl38i, hl38j, hl38m, hl38k, hb42, hb42s, he43a, he43b, he43c, he43d])))))
                obtain ⟨r44, hc45, hj32⟩ := bind_some hj32
                refine wps_call [(.take, .tmp 62), (.take, .tmp 63), (.take, .tmp 68)] rfl rfl ent131 (impl_kidFits_ok _ _ _ hc45) fun K hK => ?_; simp [hN', hb37, hb37s, hl38a, hl38b, hl38c, hl38d, hl38f, hl38g, hl38i, hl38j, hl38m, hl38k, hb42, hb42s, he43a, he43b, he43c, he43d]; refine hK _ ?_; clear hK
                iterate 2 (refine wps_cons rfl fun K hK => ?_; simp [hN', hb37, hb37s, hl38a, hl38b, hl38c, hl38d, hl38f, hl38g, hl38i, hl38j, hl38m, hl38k, hb42, hb42s, he43a, he43b, he43c, he43d]; refine hK _ ?_; clear hK)
                refine wps_nil (hK _ ?_); clear hK
                cases hj32
                exact hK33 _ () [] trivial (by simp [hN', hb37, hb37s, hl38a, hl38b, hl38c, hl38d, hl38f, hl38g, hl38i, hl38j, hl38m, hl38k, hb42, hb42s, he43a, he43b, he43c, he43d])
          rcases ite_or h26 with ⟨hb47, h26⟩ | ⟨hb48, h26⟩
          · refine SWp.condT' (b := v46) (by simp) hb47 ?_
            refine SWp.seqR rfl (hPB _ rfl) fun K hK => ?_
            refine wps_cons rfl fun K hK => ?_; simp [hN']; refine hK _ ?_; clear hK
            refine wps_nil (hK _ ?_); clear hK
            have h49 := congrArg some (ho27 _ (Option.some.inj h26).symm)
            cases h49
            try dsimp only at h
            cases h
            refine SWp.ret ?_
            simp [thenS, inBlockS, res109]
          · refine SWp.condF' (b := v46) (by simp) hb48 ?_
            refine SWp.skip ?_
            show SWp E C _ _ _
            refine SWp.reg rfl (hPB _ rfl) fun K hK => ?_
            iterate 2 (refine wps_cons rfl fun K hK => ?_; simp [hN']; refine hK _ ?_; clear hK)
            refine wps_nil (hK _ ?_); clear hK
            cases h26
            exact ⟨_, [], rfl, by simp [hN']⟩
        · refine SWp.condF' (b := decide (v25 < (e7.Kids.length : Int))) (by simp) hb30 ?_
          refine SWp.exit ?_
          have h50 := congrArg some (ho27 _ (Option.some.inj h26).symm)
          cases h50
          exact hK23 _ _ [] rfl (by simp [hN'])
      subst hv
      obtain ⟨⟩ := v
      try dsimp only at h ⊢
      refine SWp.seq ?_
      obtain ⟨v61, hj51, h⟩ := bind_some h
      refine SWp.seqRC rfl (hPB _ rfl) [5, 91] [5] (fun _ : Unit => ⟨[(5, .ref (.box 5) 0 []), (91, .t (vb v61))], [(5, [vi e7.Kind, vi e7.Num, vs e7.Name, .sl false 1 (List.map vi e7.Kids)])]⟩) (fun _ => True) (fun _ _ => ?_) fun K52 hK52 => ?_
      rotate_left
      · refine wps_cons rfl fun K hK => ?_; simp [hN']; refine hK _ ?_; clear hK
        iterate 3 (refine wps_cons rfl fun K hK => ?_; simp [hN']; refine hK _ ?_; clear hK)
        rcases ite_or hj51 with ⟨hb53, hj51⟩ | ⟨hb54, hj51⟩
        · have hb53s := hb53
          try simp at hb53s
          iterate 2 (refine wps_cons rfl fun K hK => ?_; simp [hN', hb53, hb53s]; refine hK _ ?_; clear hK)
          obtain ⟨r55, hc56, hj51⟩ := bind_some hj51
          refine wps_call [(.take, .tmp 78), (.take, .const (.int .i64 0)), (.take, .const (.int .i64 1000000000))] rfl rfl ent91 (impl_in_ok _ _ _ hc56) fun K hK => ?_; simp [hN', hb53, hb53s]; refine hK _ ?_; clear hK
          iterate 3 (refine wps_cons rfl fun K hK => ?_; simp [hN', hb53, hb53s]; refine hK _ ?_; clear hK)
          rcases ite_or hj51 with ⟨hb57, hj51⟩ | ⟨hb58, hj51⟩
          · have hb57s := hb57
            try simp at hb57s
            iterate 8 (refine wps_off fun K hK => ?_; simp [hN', hb53, hb53s, hb57, hb57s]; refine hK _ ?_; clear hK)
            refine wps_cons rfl fun K hK => ?_; simp [hN', hb53, hb53s, hb57, hb57s]; refine hK _ ?_; clear hK
            refine wps_nil ?_
            cases hj51
            exact hK52 _ () [] trivial (by simp [hN', hb53, hb53s, hb57, hb57s])
          · have hb58s := hb58
            try simp at hb58s
            iterate 4 (refine wps_cons rfl fun K hK => ?_; simp [hN', hb53, hb53s, hb58, hb58s]; refine hK _ ?_; clear hK)
            have hk59 : (e7.Kind != 1) = false := by simp [hb53, hb53s, hb58, hb58s]
            iterate 3 (refine wps_off fun K hK => ?_; simp [hN', hb53, hb53s, hb58, hb58s, hk59]; refine hK _ ?_; clear hK)
            iterate 2 (refine wps_cons rfl fun K hK => ?_; simp [hN', hb53, hb53s, hb58, hb58s, hk59]; refine hK _ ?_; clear hK)
            refine wps_nil ?_
            cases hj51
            exact hK52 _ () [] trivial (by simp [hN', hb53, hb53s, hb58, hb58s, hk59])
        · have hb54s := hb54
          try simp at hb54s
          iterate 4 (refine wps_off fun K hK => ?_; simp [hN', hb54, hb54s]; refine hK _ ?_; clear hK)
          iterate 6 (refine wps_cons rfl fun K hK => ?_; simp [hN', hb54, hb54s]; refine hK _ ?_; clear hK)
          have hk60 : (e7.Kind != 1) = true := by simp [hb54, hb54s]
          iterate 5 (refine wps_cons rfl fun K hK => ?_; simp [hN', hb54, hb54s, hk60]; refine hK _ ?_; clear hK)
          refine wps_nil ?_
          cases hj51
          exact hK52 _ () [] trivial (by simp [hN', hb54, hb54s, hk60])
      rcases ite_or h with ⟨hb62, h⟩ | ⟨hb63, h⟩
      · refine SWp.condT' (b := v61) (by simp) hb62 ?_
        refine SWp.seqR rfl (hPB _ rfl) fun K hK => ?_
        refine wps_cons rfl fun K hK => ?_; simp [hN']; refine hK _ ?_; clear hK
        refine wps_nil (hK _ ?_); clear hK
        cases h
        refine SWp.ret ?_
        simp [thenS, inBlockS, res109]
      · refine SWp.condF' (b := v61) (by simp) hb63 ?_
        refine SWp.skip ?_
        show SWp E C _ _ _
        refine SWp.seq ?_
        refine SWp.seqR rfl (hPB _ rfl) fun K hK => ?_
        iterate 2 (refine wps_cons rfl fun K hK => ?_; simp [hN']; refine hK _ ?_; clear hK)
        obtain ⟨r64, hc65, h⟩ := bind_some h
        refine wps_call [(.take, .tmp 93)] rfl rfl ent132 (impl_hasName_ok _ hc65) fun K hK => ?_; simp [hN']; refine hK _ ?_; clear hK
        refine wps_nil (hK _ ?_); clear hK
        rcases ite_or h with ⟨hb66, h⟩ | ⟨hb67, h⟩
        · refine SWp.condT' (b := r64) (by simp) hb66 ?_
          refine SWp.seqR rfl (hPB _ rfl) fun K hK => ?_
          iterate 2 (refine wps_cons rfl fun K hK => ?_; simp [hN']; refine hK _ ?_; clear hK)
          obtain ⟨r68, hc69, h⟩ := bind_some h
          refine wps_call [(.take, .tmp 96)] rfl rfl ent118 (impl_NameOk_ok _ hc69) fun K hK => ?_; simp [hN']; refine hK _ ?_; clear hK
          refine wps_cons rfl fun K hK => ?_; simp [hN']; refine hK _ ?_; clear hK
          refine wps_nil (hK _ ?_); clear hK
          cases h
          refine SWp.ret ?_
          simp [thenS, inBlockS, res109]
        · refine SWp.condF' (b := r64) (by simp) hb67 ?_
          refine SWp.skip ?_
          show SWp E C _ _ _
          refine SWp.seqR rfl (hPB _ rfl) fun K hK => ?_
          iterate 4 (refine wps_cons rfl fun K hK => ?_; simp [hN']; refine hK _ ?_; clear hK)
          refine wps_nil (hK _ ?_); clear hK
          cases h
          refine SWp.ret ?_
          simp [thenS, inBlockS, res109]
end Go.Proofs.T
set_option linter.unusedVariables false
set_option linter.unusedSimpArgs false
set_option maxHeartbeats 1000000
namespace Go.Proofs.T
open Go.OM
theorem res70 : Tryd.f70.results.toList = [.tmp 4, .tmp 5] := rfl
theorem ent70 : Enters E.P 70 := enters_of Tryd.func70 (by simp [Tryd.f70]) rfl
theorem impl_depths_ok (nodes1 : List GNode) (k2 : Int) {r0 : List Int} {r1 : Bool} (h : impl_depths nodes1 k2 = some (r0, r1)) : Ok E 70 [.val (.sl false 4 (List.map (GNode.enc false) nodes1)), .val (vi k2)] [.sl true 1 (List.map vi r0), vb r1] [] := by
  refine ok_of_body (fn := Tryd.f70) Tryd.func70 rfl (by simp [Tryd.f70]) fun C hN hP => ?_
  have hPB : ∀ l, pinK [] l = true → pinB C.pin l = true := pinB_of (by rw [hP]; rfl)
  have hN' : C.N = 51 := hN
  clear hN
  unfold impl_depths at h
  refine SWp.seqR rfl (hPB _ rfl) fun K hK => ?_
  iterate 2 (refine wps_cons rfl fun K hK => ?_; simp [hN']; refine hK _ ?_; clear hK)
  refine wps_nil (hK _ ?_); clear hK
  refine SWp.seq ?_
  refine SWp.seqR rfl (hPB _ rfl) fun K hK => ?_
  iterate 4 (refine wps_cons rfl fun K hK => ?_; simp [hN']; refine hK _ ?_; clear hK)
  obtain ⟨r3, hc4, h⟩ := bind_some h
  refine wps_call [(.take, .tmp 11), (.take, .const (.int .i64 0)), (.take, .tmp 14)] rfl rfl ent91 (impl_in_ok _ _ _ hc4) fun K hK => ?_; simp [hN']; refine hK _ ?_; clear hK
  refine wps_cons rfl fun K hK => ?_; simp [hN']; refine hK _ ?_; clear hK
  refine wps_nil (hK _ ?_); clear hK
  rcases ite_or h with ⟨hb5, h⟩ | ⟨hb6, h⟩
  · refine SWp.condT' (b := !r3) (by simp) hb5 ?_
    refine SWp.seqR rfl (hPB _ rfl) fun K hK => ?_
    iterate 2 (refine wps_cons rfl fun K hK => ?_; simp [hN']; refine hK _ ?_; clear hK)
    refine wps_nil (hK _ ?_); clear hK
    cases h
    refine SWp.ret ?_
    simp [thenS, inBlockS, res70]
  · refine SWp.condF' (b := !r3) (by simp) hb6 ?_
    refine SWp.skip ?_
    show SWp E C _ _ _
    refine SWp.seqR rfl (hPB _ rfl) fun K hK => ?_
    refine wps_cons rfl fun K hK => ?_; simp [hN']; refine hK _ ?_; clear hK
    refine wps_nil (hK _ ?_); clear hK
    obtain ⟨j9, hj7, h⟩ := bind_some h
    refine SWp.seqC [6] [] (fun v : List Int => ⟨[(6, .t (.sl true 1 (List.map vi v)))], []⟩) (fun v => j9 = Sum.inl v) (fun v hv => ?_) fun K8 hK8 => ?_
    rotate_left
    · refine SWp.seqR rfl (hPB _ rfl) fun K hK => ?_
      refine wps_cons rfl fun K hK => ?_; simp [hN']; refine hK _ ?_; clear hK
      refine wps_nil (hK _ ?_); clear hK
      refine SWp.block ?_
      refine SWp.loopO [] [0, 1, 6, 7] [] (fun v : (List Int) × Int => ⟨[(0, .t (.sl false 4 (List.map (GNode.enc false) nodes1))), (1, .t (vi k2)), (6, .t (.sl true 1 (List.map vi v.1))), (7, .t (vi v.2))], []⟩) (impl_depths_l1 nodes1 k2) _ ([], 0) hj7 (by simp [hN']) ?_
      intro g s14 h12 ho13
      obtain ⟨out10, i11⟩ := g
      simp only [impl_depths_l1] at h12
      try dsimp only
      refine SWp.seq ?_
      refine SWp.seqR rfl (hPB _ rfl) fun K hK => ?_
      iterate 3 (refine wps_cons rfl fun K hK => ?_; simp [hN']; refine hK _ ?_; clear hK)
      refine wps_nil (hK _ ?_); clear hK
      rcases ite_or h12 with ⟨hb15, h12⟩ | ⟨hb16, h12⟩
      · refine SWp.condT' (b := decide (i11 ≤ k2)) (by simp) hb15 ?_
        refine SWp.skip ?_
        show SWp E C _ _ _
        obtain ⟨j19, hj17, h12⟩ := bind_some h12
        refine SWp.seqC [0, 1, 6, 7] [] (fun v : List Int => ⟨[(0, .t (.sl false 4 (List.map (GNode.enc false) nodes1))), (1, .t (vi k2)), (6, .t (.sl true 1 (List.map vi v))), (7, .t (vi i11))], []⟩) (fun v => j19 = Sum.inl v) (fun v hv => ?_) fun K18 hK18 => ?_
        rotate_left
        · refine SWp.block ?_
          refine SWp.seq ?_
          refine SWp.seqR rfl (hPB _ rfl) fun K hK => ?_
          iterate 2 (refine wps_cons rfl fun K hK => ?_; simp [hN']; refine hK _ ?_; clear hK)
          obtain ⟨r20, hc21, hj17⟩ := bind_some hj17
          refine wps_call [(.take, .tmp 22), (.take, .tmp 23)] rfl rfl ent109 (impl_NodeOk_ok _ _ hc21) fun K hK => ?_; simp [hN']; refine hK _ ?_; clear hK
          refine wps_cons rfl fun K hK => ?_; simp [hN']; refine hK _ ?_; clear hK
          refine wps_nil (hK _ ?_); clear hK
          rcases ite_or hj17 with ⟨hb22, hj17⟩ | ⟨hb23, hj17⟩
          · refine SWp.condT' (b := !r20) (by simp) hb22 ?_
            refine SWp.seqR rfl (hPB _ rfl) fun K hK => ?_
            iterate 2 (refine wps_cons rfl fun K hK => ?_; simp [hN']; refine hK _ ?_; clear hK)
            refine wps_nil (hK _ ?_); clear hK
            cases hj17
            try dsimp only at h12
            have h24 := congrArg some (ho13 _ (Option.some.inj h12).symm)
            cases h24
            try dsimp only at h
            cases h
            refine SWp.ret ?_
            simp [thenS, inBlockS, res70]
          · refine SWp.condF' (b := !r20) (by simp) hb23 ?_
            refine SWp.skip ?_
            show SWp E C _ _ _
            refine SWp.seqR rfl (hPB _ rfl) fun K hK => ?_
            refine wps_cons rfl fun K hK => ?_; simp [hN']; refine hK _ ?_; clear hK
            refine wps_nil (hK _ ?_); clear hK
            obtain ⟨d39, hj25, hj17⟩ := bind_some hj17
            refine SWp.seqC [0, 1, 6, 7, 8] [] (fun _ : Unit => ⟨[(0, .t (.sl false 4 (List.map (GNode.enc false) nodes1))), (1, .t (vi k2)), (6, .t (.sl true 1 (List.map vi out10))), (7, .t (vi i11)), (8, .t (vi d39))], []⟩) (fun _ => True) (fun _ _ => ?_) fun K26 hK26 => ?_
            rotate_left
            · refine SWp.seqR rfl (hPB _ rfl) fun K hK => ?_
              iterate 2 (refine wps_cons rfl fun K hK => ?_; simp [hN']; refine hK _ ?_; clear hK)
              obtain ⟨e28, he28, hj25⟩ := bind_some hj25
              obtain ⟨he28a, he28b, he28c, he28d⟩ := getI_some he28
              iterate 5 (refine wps_cons rfl fun K hK => ?_; simp [hN', he28a, he28b, he28c, he28d]; refine hK _ ?_; clear hK)
              refine wps_nil (hK _ ?_); clear hK
              refine SWp.block ?_
              refine SWp.loopO [] [0, 1, 6, 7, 8, 30, 31, 32] [] (fun v : Int × Int => ⟨[(0, .t (.sl false 4 (List.map (GNode.enc false) nodes1))), (1, .t (vi k2)), (6, .t (.sl true 1 (List.map vi out10))), (7, .t (vi i11)), (8, .t (vi v.1)), (30, .t (.sl false 1 (List.map vi e28.Kids))), (31, .t (vi (e28.Kids.length : Int))), (32, .t (vi v.2))], []⟩) (impl_depths_l2 out10 e28) _ (1, 0) hj25 (by simp [hN']) ?_
              intro g s33 h31 ho32
              obtain ⟨d29, v30⟩ := g
              simp only [impl_depths_l2] at h31
              try dsimp only
              refine SWp.seqR rfl (hPB _ rfl) fun K hK => ?_
              refine wps_cons rfl fun K hK => ?_; simp [hN']; refine hK _ ?_; clear hK
              refine wps_nil (hK _ ?_); clear hK
              refine SWp.seq ?_
              rcases ite_or h31 with ⟨hb34, h31⟩ | ⟨hb35, h31⟩
              · refine SWp.condT' (b := decide (v30 < (e28.Kids.length : Int))) (by simp) hb34 ?_
                refine SWp.skip ?_
                show SWp E C _ _ _
                refine SWp.seq ?_
                refine SWp.block ?_
                refine SWp.seqR rfl (hPB _ rfl) fun K hK => ?_
                obtain ⟨e36, he36, h31⟩ := bind_some h31
                obtain ⟨he36a, he36b, he36c, he36d⟩ := getI_some he36
                iterate 3 (refine wps_cons rfl fun K hK => ?_; simp [hN', he36a, he36b, he36c, he36d]; refine hK _ ?_; clear hK)
                refine wps_nil (hK _ ?_); clear hK
                refine SWp.reg rfl (hPB _ rfl) fun K hK => ?_
                iterate 3 (refine wps_cons rfl fun K hK => ?_; simp [hN']; refine hK _ ?_; clear hK)
                obtain ⟨e37, he37, h31⟩ := bind_some h31
                obtain ⟨he37a, he37b, he37c, he37d⟩ := getI_some he37
                iterate 5 (refine wps_cons rfl fun K hK => ?_; simp [hN', he37a, he37b, he37c, he37d]; refine hK _ ?_; clear hK)
                refine wps_nil (hK _ ?_); clear hK
                show SWp E C _ _ _
                refine SWp.reg rfl (hPB _ rfl) fun K hK => ?_
                iterate 2 (refine wps_cons rfl fun K hK => ?_; simp [hN']; refine hK _ ?_; clear hK)
                refine wps_nil (hK _ ?_); clear hK
                cases h31
                exact ⟨_, [], rfl, by simp [hN']⟩
              · refine SWp.condF' (b := decide (v30 < (e28.Kids.length : Int))) (by simp) hb35 ?_
                refine SWp.exit ?_
                have h38 := congrArg some (ho32 _ (Option.some.inj h31).symm)
                cases h38
                exact hK26 _ () [] trivial (by simp [hN'])
            refine SWp.seq ?_
            refine SWp.seqR rfl (hPB _ rfl) fun K hK => ?_
            iterate 2 (refine wps_cons rfl fun K hK => ?_; simp [hN']; refine hK _ ?_; clear hK)
            refine wps_nil (hK _ ?_); clear hK
            rcases ite_or hj17 with ⟨hb40, hj17⟩ | ⟨hb41, hj17⟩
            · refine SWp.condT' (b := decide (d39 > 10)) (by simp) hb40 ?_
              refine SWp.seqR rfl (hPB _ rfl) fun K hK => ?_
              iterate 2 (refine wps_cons rfl fun K hK => ?_; simp [hN']; refine hK _ ?_; clear hK)
              refine wps_nil (hK _ ?_); clear hK
              cases hj17
              try dsimp only at h12
              have h42 := congrArg some (ho13 _ (Option.some.inj h12).symm)
              cases h42
              try dsimp only at h
              cases h
              refine SWp.ret ?_
              simp [thenS, inBlockS, res70]
            · refine SWp.condF' (b := decide (d39 > 10)) (by simp) hb41 ?_
              refine SWp.skip ?_
              show SWp E C _ _ _
              refine SWp.reg rfl (hPB _ rfl) fun K hK => ?_
              iterate 3 (refine wps_cons rfl fun K hK => ?_; simp [hN']; refine hK _ ?_; clear hK)
              obtain ⟨l43, hl43, hj17⟩ := bind_some hj17
              obtain ⟨hl43a, hl43b, hl43d⟩ := appI_some hl43
              have hl43f : List.map vi out10 ++ List.map vi [d39] = List.map vi l43 := app_map (f := vi) hl43d
              simp [eSl] at hl43a hl43b hl43f
              iterate 2 (refine wps_cons rfl fun K hK => ?_; simp [hN', hl43a, hl43b, hl43f]; refine hK _ ?_; clear hK)
              refine wps_nil (hK _ ?_); clear hK
              cases hj17
              exact hK18 _ _ [] rfl (by simp [hN'])
        subst hv
        obtain ⟨out44, hv⟩ : ∃ y, y = v := ⟨_, rfl⟩
        subst hv
        try dsimp only at h12 ⊢
        refine SWp.reg rfl (hPB _ rfl) fun K hK => ?_
        iterate 3 (refine wps_cons rfl fun K hK => ?_; simp [hN']; refine hK _ ?_; clear hK)
        refine wps_nil (hK _ ?_); clear hK
        cases h12
        exact ⟨_, [], rfl, by simp [hN']⟩
      · refine SWp.condF' (b := decide (i11 ≤ k2)) (by simp) hb16 ?_
        refine SWp.exit ?_
        have h45 := congrArg some (ho13 _ (Option.some.inj h12).symm)
        cases h45
        exact hK8 _ _ [] rfl (by simp [hN'])
    subst hv
    obtain ⟨out46, hv⟩ : ∃ y, y = v := ⟨_, rfl⟩
    subst hv
    try dsimp only at h ⊢
    refine SWp.seqR rfl (hPB _ rfl) fun K hK => ?_
    iterate 3 (refine wps_cons rfl fun K hK => ?_; simp [hN']; refine hK _ ?_; clear hK)
    refine wps_nil (hK _ ?_); clear hK
    cases h
    refine SWp.ret ?_
    simp [thenS, inBlockS, res70]
end Go.Proofs.T
set_option linter.unusedVariables false
set_option linter.unusedSimpArgs false
set_option maxHeartbeats 1000000
namespace Go.Proofs.T
open Go.OM
theorem res106 : Tryd.f106.results.toList = [.tmp 4] := rfl
theorem ent106 : Enters E.P 106 := enters_of Tryd.func106 (by simp [Tryd.f106]) rfl
theorem impl_DeepOf_ok (nodes1 : List GNode) (k2 : Int) {r0 : Int} (h : impl_DeepOf nodes1 k2 = some r0) : Ok E 106 [.val (.sl false 4 (List.map (GNode.enc false) nodes1)), .val (vi k2)] [vi r0] [] := by
  refine ok_of_body (fn := Tryd.f106) Tryd.func106 rfl (by simp [Tryd.f106]) fun C hN hP => ?_
  have hPB : ∀ l, pinK [] l = true → pinB C.pin l = true := pinB_of (by rw [hP]; rfl)
  have hN' : C.N = 19 := hN
  clear hN
  unfold impl_DeepOf at h
  refine SWp.seqR rfl (hPB _ rfl) fun K hK => ?_
  refine wps_cons rfl fun K hK => ?_; simp [hN']; refine hK _ ?_; clear hK
  refine wps_nil (hK _ ?_); clear hK
  refine SWp.seqR rfl (hPB _ rfl) fun K hK => ?_
  iterate 2 (refine wps_cons rfl fun K hK => ?_; simp [hN']; refine hK _ ?_; clear hK)
  obtain ⟨⟨r3, r4⟩, hc5, h⟩ := bind_some h
  try dsimp only at h
  refine wps_call [(.take, .tmp 8), (.take, .tmp 9)] rfl rfl ent70 (impl_depths_ok _ _ hc5) fun K hK => ?_; simp [hN']; refine hK _ ?_; clear hK
  iterate 5 (refine wps_cons rfl fun K hK => ?_; simp [hN']; refine hK _ ?_; clear hK)
  refine wps_nil (hK _ ?_); clear hK
  refine SWp.seq ?_
  refine SWp.seqR rfl (hPB _ rfl) fun K hK => ?_
  iterate 2 (refine wps_cons rfl fun K hK => ?_; simp [hN']; refine hK _ ?_; clear hK)
  refine wps_nil (hK _ ?_); clear hK
  rcases ite_or h with ⟨hb6, h⟩ | ⟨hb7, h⟩
  · refine SWp.condT' (b := !r4) (by simp) hb6 ?_
    refine SWp.seqR rfl (hPB _ rfl) fun K hK => ?_
    refine wps_cons rfl fun K hK => ?_; simp [hN']; refine hK _ ?_; clear hK
    refine wps_nil (hK _ ?_); clear hK
    cases h
    refine SWp.ret ?_
    simp [thenS, inBlockS, res106]
  · refine SWp.condF' (b := !r4) (by simp) hb7 ?_
    refine SWp.skip ?_
    show SWp E C _ _ _
    refine SWp.seqR rfl (hPB _ rfl) fun K hK => ?_
    iterate 2 (refine wps_cons rfl fun K hK => ?_; simp [hN']; refine hK _ ?_; clear hK)
    obtain ⟨e8, he8, h⟩ := bind_some h
    obtain ⟨he8a, he8b, he8c, he8d⟩ := getI_some he8
    iterate 3 (refine wps_cons rfl fun K hK => ?_; simp [hN', he8a, he8b, he8c, he8d]; refine hK _ ?_; clear hK)
    refine wps_nil (hK _ ?_); clear hK
    cases h
    refine SWp.ret ?_
    simp [thenS, inBlockS, res106]
end Go.Proofs.T
set_option linter.unusedVariables false
set_option linter.unusedSimpArgs false
set_option maxHeartbeats 1000000
namespace Go.Proofs.T
open Go.OM
theorem res107 : Tryd.f107.results.toList = [.tmp 4] := rfl
theorem ent107 : Enters E.P 107 := enters_of Tryd.func107 (by simp [Tryd.f107]) rfl
theorem impl_fnOk_ok (p1 : GProgram) (f2 : GFn) {r0 : Bool} (h : impl_fnOk p1 f2 = some r0) : Ok E 107 [.val (GProgram.enc false p1), .val (GFn.enc false f2)] [vb r0] [] := by
  refine ok_of_body (fn := Tryd.f107) Tryd.func107 rfl (by simp [Tryd.f107]) fun C hN hP => ?_
  have hPB : ∀ l, pinK [] l = true → pinB C.pin l = true := pinB_of (by rw [hP]; rfl)
  have hN' : C.N = 91 := hN
  clear hN
  unfold impl_fnOk at h
  refine SWp.seqR rfl (hPB _ rfl) fun K hK => ?_
  iterate 3 (refine wps_cons rfl fun K hK => ?_; simp [hN']; refine hK _ ?_; clear hK)
  refine wps_nil (hK _ ?_); clear hK
  refine SWp.seq ?_
  obtain ⟨v15, hj3, h⟩ := bind_some h
  refine SWp.seqRC rfl (hPB _ rfl) [2, 3, 31] [2, 3] (fun _ : Unit => ⟨[(2, .ref (.box 2) 0 []), (3, .ref (.box 3) 0 []), (31, .t (vb v15))], [(2, [.sl false 4 (List.map (GNode.enc false) p1.Nodes), .sl false 5 (List.map (GFn.enc false) p1.Fns)]), (3, [vs f2.Name, .sl false 2 (List.map GParam.enc f2.Params), vi f2.Res, vi f2.Body, vi f2.Ret])]⟩) (fun _ => True) (fun _ _ => ?_) fun K4 hK4 => ?_
  rotate_left
  · refine wps_cons rfl fun K hK => ?_; simp [hN']; refine hK _ ?_; clear hK
    refine wps_cons rfl fun K hK => ?_; simp [hN']; refine hK _ ?_; clear hK
    obtain ⟨r5, hc6, hj3⟩ := bind_some hj3
    refine wps_call [(.take, .tmp 8)] rfl rfl ent118 (impl_NameOk_ok _ hc6) fun K hK => ?_; simp [hN']; refine hK _ ?_; clear hK
    iterate 2 (refine wps_cons rfl fun K hK => ?_; simp [hN']; refine hK _ ?_; clear hK)
    rcases ite_or hj3 with ⟨hb7, hj3⟩ | ⟨hb8, hj3⟩
    · have hb7s := hb7
      try simp at hb7s
      iterate 4 (refine wps_off fun K hK => ?_; simp [hN', hb7, hb7s]; refine hK _ ?_; clear hK)
      iterate 2 (refine wps_cons rfl fun K hK => ?_; simp [hN', hb7, hb7s]; refine hK _ ?_; clear hK)
      iterate 13 (refine wps_off fun K hK => ?_; simp [hN', hb7, hb7s]; refine hK _ ?_; clear hK)
      refine wps_cons rfl fun K hK => ?_; simp [hN', hb7, hb7s]; refine hK _ ?_; clear hK
      refine wps_nil ?_
      cases hj3
      exact hK4 _ () [] trivial (by simp [hN', hb7, hb7s])
    · have hb8s := hb8
      try simp at hb8s
      iterate 6 (refine wps_cons rfl fun K hK => ?_; simp [hN', hb8, hb8s]; refine hK _ ?_; clear hK)
      rcases ite_or hj3 with ⟨hb9, hj3⟩ | ⟨hb10, hj3⟩
      · have hb9s := hb9
        try simp at hb9s
        iterate 13 (refine wps_off fun K hK => ?_; simp [hN', hb8, hb8s, hb9, hb9s]; refine hK _ ?_; clear hK)
        refine wps_cons rfl fun K hK => ?_; simp [hN', hb8, hb8s, hb9, hb9s]; refine hK _ ?_; clear hK
        refine wps_nil ?_
        cases hj3
        exact hK4 _ () [] trivial (by simp [hN', hb8, hb8s, hb9, hb9s])
      · have hb10s := hb10
        try simp at hb10s
        iterate 4 (refine wps_cons rfl fun K hK => ?_; simp [hN', hb8, hb8s, hb10, hb10s]; refine hK _ ?_; clear hK)
        rcases ite_or hj3 with ⟨hb11, hj3⟩ | ⟨hb12, hj3⟩
        · have hb11s := hb11
          try simp at hb11s
          iterate 5 (refine wps_cons rfl fun K hK => ?_; simp [hN', hb8, hb8s, hb10, hb10s, hb11, hb11s]; refine hK _ ?_; clear hK)
          rcases ite_or hj3 with ⟨hb13, hj3⟩ | ⟨hb14, hj3⟩
          · have hb13s := hb13
            try simp at hb13s
            iterate 5 (refine wps_cons rfl fun K hK => ?_; simp [hN', hb8, hb8s, hb10, hb10s, hb11, hb11s, hb13, hb13s]; refine hK _ ?_; clear hK)
            refine wps_nil ?_
            cases hj3
            exact hK4 _ () [] trivial (by simp [hN', hb8, hb8s, hb10, hb10s, hb11, hb11s, hb13, hb13s])
          · have hb14s := hb14
            try simp at hb14s
            iterate 3 (refine wps_off fun K hK => ?_; simp [hN', hb8, hb8s, hb10, hb10s, hb11, hb11s, hb14, hb14s]; refine hK _ ?_; clear hK)
            iterate 2 (refine wps_cons rfl fun K hK => ?_; simp [hN', hb8, hb8s, hb10, hb10s, hb11, hb11s, hb14, hb14s]; refine hK _ ?_; clear hK)
            refine wps_nil ?_
            cases hj3
            exact hK4 _ () [] trivial (by simp [hN', hb8, hb8s, hb10, hb10s, hb11, hb11s, hb14, hb14s])
        · have hb12s := hb12
          try simp at hb12s
          iterate 3 (refine wps_off fun K hK => ?_; simp [hN', hb8, hb8s, hb10, hb10s, hb12, hb12s]; refine hK _ ?_; clear hK)
          iterate 2 (refine wps_cons rfl fun K hK => ?_; simp [hN', hb8, hb8s, hb10, hb10s, hb12, hb12s]; refine hK _ ?_; clear hK)
          iterate 3 (refine wps_off fun K hK => ?_; simp [hN', hb8, hb8s, hb10, hb10s, hb12, hb12s]; refine hK _ ?_; clear hK)
          iterate 2 (refine wps_cons rfl fun K hK => ?_; simp [hN', hb8, hb8s, hb10, hb10s, hb12, hb12s]; refine hK _ ?_; clear hK)
          refine wps_nil ?_
          cases hj3
          exact hK4 _ () [] trivial (by simp [hN', hb8, hb8s, hb10, hb10s, hb12, hb12s])
  rcases ite_or h with ⟨hb16, h⟩ | ⟨hb17, h⟩
  · refine SWp.condT' (b := v15) (by simp) hb16 ?_
    refine SWp.seqR rfl (hPB _ rfl) fun K hK => ?_
    refine wps_cons rfl fun K hK => ?_; simp [hN']; refine hK _ ?_; clear hK
    refine wps_nil (hK _ ?_); clear hK
    cases h
    refine SWp.ret ?_
    simp [thenS, inBlockS, res107]
  · refine SWp.condF' (b := v15) (by simp) hb17 ?_
    refine SWp.skip ?_
    show SWp E C _ _ _
    obtain ⟨j20, hj18, h⟩ := bind_some h
    refine SWp.seqC [2, 3] [2, 3] (fun v : Unit => ⟨[(2, .ref (.box 2) 0 []), (3, .ref (.box 3) 0 [])], [(2, [.sl false 4 (List.map (GNode.enc false) p1.Nodes), .sl false 5 (List.map (GFn.enc false) p1.Fns)]), (3, [vs f2.Name, .sl false 2 (List.map GParam.enc f2.Params), vi f2.Res, vi f2.Body, vi f2.Ret])]⟩) (fun v => j20 = Sum.inl v) (fun v hv => ?_) fun K19 hK19 => ?_
    rotate_left
    · refine SWp.seqR rfl (hPB _ rfl) fun K hK => ?_
      iterate 4 (refine wps_cons rfl fun K hK => ?_; simp [hN']; refine hK _ ?_; clear hK)
      refine wps_nil (hK _ ?_); clear hK
      refine SWp.block ?_
      refine SWp.loopO [] [2, 3, 33, 34, 35] [2, 3] (fun v : Int => ⟨[(2, .ref (.box 2) 0 []), (3, .ref (.box 3) 0 []), (33, .t (.sl false 2 (List.map GParam.enc f2.Params))), (34, .t (vi (f2.Params.length : Int))), (35, .t (vi v))], [(2, [.sl false 4 (List.map (GNode.enc false) p1.Nodes), .sl false 5 (List.map (GFn.enc false) p1.Fns)]), (3, [vs f2.Name, .sl false 2 (List.map GParam.enc f2.Params), vi f2.Res, vi f2.Body, vi f2.Ret])]⟩) (impl_fnOk_l1 f2) _ 0 hj18 (by simp [hN']) ?_
      intro g s24 h22 ho23
      obtain ⟨v21, hg⟩ : ∃ y, y = g := ⟨_, rfl⟩
      subst hg
      simp only [impl_fnOk_l1] at h22
      try dsimp only
      refine SWp.seqR rfl (hPB _ rfl) fun K hK => ?_
      refine wps_cons rfl fun K hK => ?_; simp [hN']; refine hK _ ?_; clear hK
      refine wps_nil (hK _ ?_); clear hK
      refine SWp.seq ?_
      rcases ite_or h22 with ⟨hb25, h22⟩ | ⟨hb26, h22⟩
      · refine SWp.condT' (b := decide (v21 < (f2.Params.length : Int))) (by simp) hb25 ?_
        refine SWp.skip ?_
        show SWp E C _ _ _
        refine SWp.seq ?_
        refine SWp.block ?_
        refine SWp.seqR rfl (hPB _ rfl) fun K hK => ?_
        obtain ⟨e27, he27, h22⟩ := bind_some h22
        obtain ⟨he27a, he27b, he27c, he27d⟩ := getI_some he27
        iterate 4 (refine wps_cons rfl fun K hK => ?_; simp [hN', he27a, he27b, he27c, he27d]; refine hK _ ?_; clear hK)
        refine wps_nil (hK _ ?_); clear hK
        obtain ⟨v36, hj28, h22⟩ := bind_some h22
        refine SWp.seqRC rfl (hPB _ rfl) [2, 3, 33, 34, 35, 48] [2, 3] (fun _ : Unit => ⟨[(2, .ref (.box 2) 0 []), (3, .ref (.box 3) 0 []), (33, .t (.sl false 2 (List.map GParam.enc f2.Params))), (34, .t (vi (f2.Params.length : Int))), (35, .t (vi v21)), (48, .t (vb v36))], [(2, [.sl false 4 (List.map (GNode.enc false) p1.Nodes), .sl false 5 (List.map (GFn.enc false) p1.Fns)]), (3, [vs f2.Name, .sl false 2 (List.map GParam.enc f2.Params), vi f2.Res, vi f2.Body, vi f2.Ret])]⟩) (fun _ => True) (fun _ _ => ?_) fun K29 hK29 => ?_
        rotate_left
        · refine wps_cons rfl fun K hK => ?_; simp [hN']; refine hK _ ?_; clear hK
          refine wps_cons rfl fun K hK => ?_; simp [hN']; refine hK _ ?_; clear hK
          obtain ⟨r30, hc31, hj28⟩ := bind_some hj28
          refine wps_call [(.take, .tmp 40)] rfl rfl ent118 (impl_NameOk_ok _ hc31) fun K hK => ?_; simp [hN']; refine hK _ ?_; clear hK
          iterate 2 (refine wps_cons rfl fun K hK => ?_; simp [hN']; refine hK _ ?_; clear hK)
          rcases ite_or hj28 with ⟨hb32, hj28⟩ | ⟨hb33, hj28⟩
          · have hb32s := hb32
            try simp at hb32s
            iterate 4 (refine wps_off fun K hK => ?_; simp [hN', hb32, hb32s]; refine hK _ ?_; clear hK)
            refine wps_cons rfl fun K hK => ?_; simp [hN', hb32, hb32s]; refine hK _ ?_; clear hK
            refine wps_nil ?_
            cases hj28
            exact hK29 _ () [] trivial (by simp [hN', hb32, hb32s])
          · have hb33s := hb33
            try simp at hb33s
            iterate 2 (refine wps_cons rfl fun K hK => ?_; simp [hN', hb33, hb33s]; refine hK _ ?_; clear hK)
            obtain ⟨r34, hc35, hj28⟩ := bind_some hj28
            refine wps_call [(.take, .tmp 45), (.take, .const (.int .i64 1)), (.take, .const (.int .i64 4))] rfl rfl ent91 (impl_in_ok _ _ _ hc35) fun K hK => ?_; simp [hN', hb33, hb33s]; refine hK _ ?_; clear hK
            iterate 2 (refine wps_cons rfl fun K hK => ?_; simp [hN', hb33, hb33s]; refine hK _ ?_; clear hK)
            refine wps_nil ?_
            cases hj28
            exact hK29 _ () [] trivial (by simp [hN', hb33, hb33s])
        rcases ite_or h22 with ⟨hb37, h22⟩ | ⟨hb38, h22⟩
        · refine SWp.condT' (b := v36) (by simp) hb37 ?_
          refine SWp.seqR rfl (hPB _ rfl) fun K hK => ?_
          refine wps_cons rfl fun K hK => ?_; simp [hN']; refine hK _ ?_; clear hK
          refine wps_nil (hK _ ?_); clear hK
          have h39 := congrArg some (ho23 _ (Option.some.inj h22).symm)
          cases h39
          try dsimp only at h
          cases h
          refine SWp.ret ?_
          simp [thenS, inBlockS, res107]
        · refine SWp.condF' (b := v36) (by simp) hb38 ?_
          refine SWp.skip ?_
          show SWp E C _ _ _
          refine SWp.reg rfl (hPB _ rfl) fun K hK => ?_
          iterate 2 (refine wps_cons rfl fun K hK => ?_; simp [hN']; refine hK _ ?_; clear hK)
          refine wps_nil (hK _ ?_); clear hK
          cases h22
          exact ⟨_, [], rfl, by simp [hN']⟩
      · refine SWp.condF' (b := decide (v21 < (f2.Params.length : Int))) (by simp) hb26 ?_
        refine SWp.exit ?_
        have h40 := congrArg some (ho23 _ (Option.some.inj h22).symm)
        cases h40
        exact hK19 _ _ [] rfl (by simp [hN'])
    subst hv
    obtain ⟨⟩ := v
    try dsimp only at h ⊢
    refine SWp.seq ?_
    obtain ⟨v48, hj41, h⟩ := bind_some h
    refine SWp.seqRC rfl (hPB _ rfl) [2, 3, 67] [2, 3] (fun _ : Unit => ⟨[(2, .ref (.box 2) 0 []), (3, .ref (.box 3) 0 []), (67, .t (vb v48))], [(2, [.sl false 4 (List.map (GNode.enc false) p1.Nodes), .sl false 5 (List.map (GFn.enc false) p1.Fns)]), (3, [vs f2.Name, .sl false 2 (List.map GParam.enc f2.Params), vi f2.Res, vi f2.Body, vi f2.Ret])]⟩) (fun _ => True) (fun _ _ => ?_) fun K42 hK42 => ?_
    rotate_left
    · refine wps_cons rfl fun K hK => ?_; simp [hN']; refine hK _ ?_; clear hK
      iterate 5 (refine wps_cons rfl fun K hK => ?_; simp [hN']; refine hK _ ?_; clear hK)
      obtain ⟨r43, hc44, hj41⟩ := bind_some hj41
      refine wps_call [(.take, .tmp 51), (.take, .const (.int .i64 0)), (.take, .tmp 55)] rfl rfl ent91 (impl_in_ok _ _ _ hc44) fun K hK => ?_; simp [hN']; refine hK _ ?_; clear hK
      iterate 2 (refine wps_cons rfl fun K hK => ?_; simp [hN']; refine hK _ ?_; clear hK)
      rcases ite_or hj41 with ⟨hb45, hj41⟩ | ⟨hb46, hj41⟩
      · have hb45s := hb45
        try simp at hb45s
        iterate 8 (refine wps_off fun K hK => ?_; simp [hN', hb45, hb45s]; refine hK _ ?_; clear hK)
        refine wps_cons rfl fun K hK => ?_; simp [hN', hb45, hb45s]; refine hK _ ?_; clear hK
        refine wps_nil ?_
        cases hj41
        exact hK42 _ () [] trivial (by simp [hN', hb45, hb45s])
      · have hb46s := hb46
        try simp at hb46s
        iterate 4 (refine wps_cons rfl fun K hK => ?_; simp [hN', hb46, hb46s]; refine hK _ ?_; clear hK)
        obtain ⟨e47, he47, hj41⟩ := bind_some hj41
        obtain ⟨he47a, he47b, he47c, he47d⟩ := getI_some he47
        have he47j := he47b; try simp at he47j
        try simp only [Int.toNat_natCast] at he47c he47d
        iterate 5 (refine wps_cons rfl fun K hK => ?_; simp [hN', hb46, hb46s, he47a, he47b, he47c, he47d, he47j]; refine hK _ ?_; clear hK)
        refine wps_nil ?_
        cases hj41
        exact hK42 _ () [] trivial (by simp [hN', hb46, hb46s, he47a, he47b, he47c, he47d, he47j])
    rcases ite_or h with ⟨hb49, h⟩ | ⟨hb50, h⟩
    · refine SWp.condT' (b := v48) (by simp) hb49 ?_
      refine SWp.seqR rfl (hPB _ rfl) fun K hK => ?_
      refine wps_cons rfl fun K hK => ?_; simp [hN']; refine hK _ ?_; clear hK
      refine wps_nil (hK _ ?_); clear hK
      cases h
      refine SWp.ret ?_
      simp [thenS, inBlockS, res107]
    · refine SWp.condF' (b := v48) (by simp) hb50 ?_
      refine SWp.skip ?_
      show SWp E C _ _ _
      refine SWp.seq ?_
      refine SWp.seqR rfl (hPB _ rfl) fun K hK => ?_
      iterate 3 (refine wps_cons rfl fun K hK => ?_; simp [hN']; refine hK _ ?_; clear hK)
      refine wps_nil (hK _ ?_); clear hK
      rcases ite_or h with ⟨hb51, h⟩ | ⟨hb52, h⟩
      · refine SWp.condT' (b := f2.Res == 0) (by simp) hb51 ?_
        refine SWp.seqR rfl (hPB _ rfl) fun K hK => ?_
        iterate 4 (refine wps_cons rfl fun K hK => ?_; simp [hN']; refine hK _ ?_; clear hK)
        refine wps_nil (hK _ ?_); clear hK
        cases h
        refine SWp.ret ?_
        simp [thenS, inBlockS, res107]
      · refine SWp.condF' (b := f2.Res == 0) (by simp) hb52 ?_
        refine SWp.skip ?_
        show SWp E C _ _ _
        obtain ⟨v62, hj53, h⟩ := bind_some h
        refine SWp.seqRC rfl (hPB _ rfl) [4] [] (fun _ : Unit => ⟨[(4, .t (vb v62))], []⟩) (fun _ => True) (fun _ _ => ?_) fun K54 hK54 => ?_
        rotate_left
        · refine wps_cons rfl fun K hK => ?_; simp [hN']; refine hK _ ?_; clear hK
          iterate 5 (refine wps_cons rfl fun K hK => ?_; simp [hN']; refine hK _ ?_; clear hK)
          obtain ⟨r55, hc56, hj53⟩ := bind_some hj53
          refine wps_call [(.take, .tmp 75), (.take, .const (.int .i64 0)), (.take, .tmp 79)] rfl rfl ent91 (impl_in_ok _ _ _ hc56) fun K hK => ?_; simp [hN']; refine hK _ ?_; clear hK
          refine wps_cons rfl fun K hK => ?_; simp [hN']; refine hK _ ?_; clear hK
          rcases ite_or hj53 with ⟨hb57, hj53⟩ | ⟨hb58, hj53⟩
          · have hb57s := hb57
            try simp at hb57s
            iterate 4 (refine wps_cons rfl fun K hK => ?_; simp [hN', hb57, hb57s]; refine hK _ ?_; clear hK)
            obtain ⟨e59, he59, hj53⟩ := bind_some hj53
            obtain ⟨he59a, he59b, he59c, he59d⟩ := getI_some he59
            have he59j := he59b; try simp at he59j
            try simp only [Int.toNat_natCast] at he59c he59d
            iterate 3 (refine wps_cons rfl fun K hK => ?_; simp [hN', hb57, hb57s, he59a, he59b, he59c, he59d, he59j]; refine hK _ ?_; clear hK)
            obtain ⟨r60, hc61, hj53⟩ := bind_some hj53
            refine wps_call [(.take, .tmp 88)] rfl rfl ent68 (impl_isValue_ok _ hc61) fun K hK => ?_; simp [hN', hb57, hb57s, he59a, he59b, he59c, he59d, he59j]; refine hK _ ?_; clear hK
            iterate 2 (refine wps_cons rfl fun K hK => ?_; simp [hN', hb57, hb57s, he59a, he59b, he59c, he59d, he59j]; refine hK _ ?_; clear hK)
            refine wps_nil ?_
            cases hj53
            exact hK54 _ () [] trivial (by simp [hN', hb57, hb57s, he59a, he59b, he59c, he59d, he59j])
          · have hb58s := hb58
            try simp at hb58s
            iterate 8 (refine wps_off fun K hK => ?_; simp [hN', hb58, hb58s]; refine hK _ ?_; clear hK)
            iterate 2 (refine wps_cons rfl fun K hK => ?_; simp [hN', hb58, hb58s]; refine hK _ ?_; clear hK)
            refine wps_nil ?_
            cases hj53
            exact hK54 _ () [] trivial (by simp [hN', hb58, hb58s])
        cases h
        refine SWp.ret ?_
        simp [thenS, inBlockS, res107]
end Go.Proofs.T
set_option linter.unusedVariables false
set_option linter.unusedSimpArgs false
set_option maxHeartbeats 1000000
namespace Go.Proofs.T
open Go.OM
theorem res108 : Tryd.f108.results.toList = [.tmp 4] := rfl
theorem ent108 : Enters E.P 108 := enters_of Tryd.func108 (by simp [Tryd.f108]) rfl
theorem impl_FnAt_ok (p1 : GProgram) (name2 : ByteArray) {r0 : Int} (h : impl_FnAt p1 name2 = some r0) : Ok E 108 [.val (GProgram.enc false p1), .val (vs name2)] [vi r0] [] := by
  refine ok_of_body (fn := Tryd.f108) Tryd.func108 rfl (by simp [Tryd.f108]) fun C hN hP => ?_
  have hPB : ∀ l, pinK [] l = true → pinB C.pin l = true := pinB_of (by rw [hP]; rfl)
  have hN' : C.N = 21 := hN
  clear hN
  unfold impl_FnAt at h
  refine SWp.seqR rfl (hPB _ rfl) fun K hK => ?_
  iterate 2 (refine wps_cons rfl fun K hK => ?_; simp [hN']; refine hK _ ?_; clear hK)
  refine wps_nil (hK _ ?_); clear hK
  obtain ⟨j5, hj3, h⟩ := bind_some h
  refine SWp.seqC [] [] (fun v : Unit => ⟨[], []⟩) (fun v => j5 = Sum.inl v) (fun v hv => ?_) fun K4 hK4 => ?_
  rotate_left
  · refine SWp.seqR rfl (hPB _ rfl) fun K hK => ?_
    iterate 4 (refine wps_cons rfl fun K hK => ?_; simp [hN']; refine hK _ ?_; clear hK)
    refine wps_nil (hK _ ?_); clear hK
    refine SWp.block ?_
    refine SWp.loopO [] [1, 8, 9, 10] [] (fun v : Int => ⟨[(1, .t (vs name2)), (8, .t (.sl false 5 (List.map (GFn.enc false) p1.Fns))), (9, .t (vi (p1.Fns.length : Int))), (10, .t (vi v))], []⟩) (impl_FnAt_l1 p1 name2) _ 0 hj3 (by simp [hN']) ?_
    intro g s9 h7 ho8
    obtain ⟨v6, hg⟩ : ∃ y, y = g := ⟨_, rfl⟩
    subst hg
    simp only [impl_FnAt_l1] at h7
    try dsimp only
    refine SWp.seqR rfl (hPB _ rfl) fun K hK => ?_
    refine wps_cons rfl fun K hK => ?_; simp [hN']; refine hK _ ?_; clear hK
    refine wps_nil (hK _ ?_); clear hK
    refine SWp.seq ?_
    rcases ite_or h7 with ⟨hb10, h7⟩ | ⟨hb11, h7⟩
    · refine SWp.condT' (b := decide (v6 < (p1.Fns.length : Int))) (by simp) hb10 ?_
      refine SWp.skip ?_
      show SWp E C _ _ _
      refine SWp.seq ?_
      refine SWp.block ?_
      refine SWp.seqR rfl (hPB _ rfl) fun K hK => ?_
      refine wps_cons rfl fun K hK => ?_; simp [hN']; refine hK _ ?_; clear hK
      obtain ⟨e12, he12, h7⟩ := bind_some h7
      obtain ⟨he12a, he12b, he12c, he12d⟩ := getI_some he12
      iterate 5 (refine wps_cons rfl fun K hK => ?_; simp [hN', he12a, he12b, he12c, he12d]; refine hK _ ?_; clear hK)
      refine wps_nil (hK _ ?_); clear hK
      refine SWp.seqR rfl (hPB _ rfl) fun K hK => ?_
      iterate 4 (refine wps_cons rfl fun K hK => ?_; simp [hN']; refine hK _ ?_; clear hK)
      refine wps_nil (hK _ ?_); clear hK
      rcases ite_or h7 with ⟨hb13, h7⟩ | ⟨hb14, h7⟩
      · refine SWp.condT' (b := sEq e12.Name name2) (by simp) hb13 ?_
        refine SWp.seqR rfl (hPB _ rfl) fun K hK => ?_
        iterate 2 (refine wps_cons rfl fun K hK => ?_; simp [hN']; refine hK _ ?_; clear hK)
        refine wps_nil (hK _ ?_); clear hK
        have h15 := congrArg some (ho8 _ (Option.some.inj h7).symm)
        cases h15
        try dsimp only at h
        cases h
        refine SWp.ret ?_
        simp [thenS, inBlockS, res108]
      · refine SWp.condF' (b := sEq e12.Name name2) (by simp) hb14 ?_
        refine SWp.skip ?_
        show SWp E C _ _ _
        refine SWp.reg rfl (hPB _ rfl) fun K hK => ?_
        iterate 2 (refine wps_cons rfl fun K hK => ?_; simp [hN']; refine hK _ ?_; clear hK)
        refine wps_nil (hK _ ?_); clear hK
        cases h7
        exact ⟨_, [], rfl, by simp [hN']⟩
    · refine SWp.condF' (b := decide (v6 < (p1.Fns.length : Int))) (by simp) hb11 ?_
      refine SWp.exit ?_
      have h16 := congrArg some (ho8 _ (Option.some.inj h7).symm)
      cases h16
      exact hK4 _ _ [] rfl (by simp [hN'])
  subst hv
  obtain ⟨⟩ := v
  try dsimp only at h ⊢
  refine SWp.seqR rfl (hPB _ rfl) fun K hK => ?_
  refine wps_cons rfl fun K hK => ?_; simp [hN']; refine hK _ ?_; clear hK
  refine wps_nil (hK _ ?_); clear hK
  cases h
  refine SWp.ret ?_
  simp [thenS, inBlockS, res108]
end Go.Proofs.T
set_option linter.unusedVariables false
set_option linter.unusedSimpArgs false
set_option maxHeartbeats 1000000
namespace Go.Proofs.T
open Go.OM
theorem res66 : Tryd.f66.results.toList = [.tmp 2] := rfl
theorem ent66 : Enters E.P 66 := enters_of Tryd.func66 (by simp [Tryd.f66]) rfl
theorem impl_ProgramOk_ok (p1 : GProgram) {r0 : Bool} (h : impl_ProgramOk p1 = some r0) : Ok E 66 [.val (GProgram.enc false p1)] [vb r0] [] := by
  refine ok_of_body (fn := Tryd.f66) Tryd.func66 rfl (by simp [Tryd.f66]) fun C hN hP => ?_
  have hPB : ∀ l, pinK [] l = true → pinB C.pin l = true := pinB_of (by rw [hP]; rfl)
  have hN' : C.N = 115 := hN
  clear hN
  unfold impl_ProgramOk at h
  refine SWp.seqR rfl (hPB _ rfl) fun K hK => ?_
  iterate 2 (refine wps_cons rfl fun K hK => ?_; simp [hN']; refine hK _ ?_; clear hK)
  refine wps_nil (hK _ ?_); clear hK
  refine SWp.seqR rfl (hPB _ rfl) fun K hK => ?_
  iterate 4 (refine wps_cons rfl fun K hK => ?_; simp [hN']; refine hK _ ?_; clear hK)
  refine wps_nil (hK _ ?_); clear hK
  refine SWp.seq ?_
  obtain ⟨v14, hj2, h⟩ := bind_some h
  refine SWp.seqRC rfl (hPB _ rfl) [1, 3, 35] [1] (fun _ : Unit => ⟨[(1, .ref (.box 1) 0 []), (3, .t (vi (p1.Nodes.length : Int))), (35, .t (vb v14))], [(1, [.sl false 4 (List.map (GNode.enc false) p1.Nodes), .sl false 5 (List.map (GFn.enc false) p1.Fns)])]⟩) (fun _ => True) (fun _ _ => ?_) fun K3 hK3 => ?_
  rotate_left
  · refine wps_cons rfl fun K hK => ?_; simp [hN']; refine hK _ ?_; clear hK
    obtain ⟨r4, hc5, hj2⟩ := bind_some hj2
    refine wps_call [(.take, .tmp 18), (.take, .const (.int .i64 1)), (.take, .const (.int .i64 300))] rfl rfl ent91 (impl_in_ok _ _ _ hc5) fun K hK => ?_; simp [hN']; refine hK _ ?_; clear hK
    iterate 2 (refine wps_cons rfl fun K hK => ?_; simp [hN']; refine hK _ ?_; clear hK)
    rcases ite_or hj2 with ⟨hb6, hj2⟩ | ⟨hb7, hj2⟩
    · have hb6s := hb6
      try simp at hb6s
      iterate 5 (refine wps_off fun K hK => ?_; simp [hN', hb6, hb6s]; refine hK _ ?_; clear hK)
      iterate 2 (refine wps_cons rfl fun K hK => ?_; simp [hN', hb6, hb6s]; refine hK _ ?_; clear hK)
      iterate 6 (refine wps_off fun K hK => ?_; simp [hN', hb6, hb6s]; refine hK _ ?_; clear hK)
      refine wps_cons rfl fun K hK => ?_; simp [hN', hb6, hb6s]; refine hK _ ?_; clear hK
      refine wps_nil ?_
      cases hj2
      exact hK3 _ () [] trivial (by simp [hN', hb6, hb6s])
    · have hb7s := hb7
      try simp at hb7s
      iterate 3 (refine wps_cons rfl fun K hK => ?_; simp [hN', hb7, hb7s]; refine hK _ ?_; clear hK)
      obtain ⟨r8, hc9, hj2⟩ := bind_some hj2
      refine wps_call [(.take, .tmp 24), (.take, .const (.int .i64 1)), (.take, .const (.int .i64 8))] rfl rfl ent91 (impl_in_ok _ _ _ hc9) fun K hK => ?_; simp [hN', hb7, hb7s]; refine hK _ ?_; clear hK
      iterate 3 (refine wps_cons rfl fun K hK => ?_; simp [hN', hb7, hb7s]; refine hK _ ?_; clear hK)
      rcases ite_or hj2 with ⟨hb10, hj2⟩ | ⟨hb11, hj2⟩
      · have hb10s := hb10
        try simp at hb10s
        iterate 6 (refine wps_off fun K hK => ?_; simp [hN', hb7, hb7s, hb10, hb10s]; refine hK _ ?_; clear hK)
        refine wps_cons rfl fun K hK => ?_; simp [hN', hb7, hb7s, hb10, hb10s]; refine hK _ ?_; clear hK
        refine wps_nil ?_
        cases hj2
        exact hK3 _ () [] trivial (by simp [hN', hb7, hb7s, hb10, hb10s])
      · have hb11s := hb11
        try simp at hb11s
        iterate 4 (refine wps_cons rfl fun K hK => ?_; simp [hN', hb7, hb7s, hb11, hb11s]; refine hK _ ?_; clear hK)
        obtain ⟨r12, hc13, hj2⟩ := bind_some hj2
        refine wps_call [(.take, .tmp 30), (.take, .tmp 32)] rfl rfl ent106 (impl_DeepOf_ok _ _ hc13) fun K hK => ?_; simp [hN', hb7, hb7s, hb11, hb11s]; refine hK _ ?_; clear hK
        iterate 2 (refine wps_cons rfl fun K hK => ?_; simp [hN', hb7, hb7s, hb11, hb11s]; refine hK _ ?_; clear hK)
        refine wps_nil ?_
        cases hj2
        exact hK3 _ () [] trivial (by simp [hN', hb7, hb7s, hb11, hb11s])
  rcases ite_or h with ⟨hb15, h⟩ | ⟨hb16, h⟩
  · refine SWp.condT' (b := v14) (by simp) hb15 ?_
    refine SWp.seqR rfl (hPB _ rfl) fun K hK => ?_
    refine wps_cons rfl fun K hK => ?_; simp [hN']; refine hK _ ?_; clear hK
    refine wps_nil (hK _ ?_); clear hK
    cases h
    refine SWp.ret ?_
    simp [thenS, inBlockS, res66]
  · refine SWp.condF' (b := v14) (by simp) hb16 ?_
    refine SWp.skip ?_
    show SWp E C _ _ _
    refine SWp.seqR rfl (hPB _ rfl) fun K hK => ?_
    refine wps_cons rfl fun K hK => ?_; simp [hN']; refine hK _ ?_; clear hK
    obtain ⟨l17, hl17, h⟩ := bind_some h
    obtain ⟨hl17a, hl17b, hl17c, hl17d⟩ := mkI_some hl17
    have hl17f : List.replicate (p1.Nodes.length : Int).toNat (vi 0) = List.map vi l17 := rep_map (f := vi) hl17d
    try simp only [Int.toNat_natCast] at hl17f
    iterate 2 (refine wps_cons rfl fun K hK => ?_; simp [hN', hl17a, hl17b, hl17c, hl17f]; refine hK _ ?_; clear hK)
    refine wps_nil (hK _ ?_); clear hK
    obtain ⟨met45, hj18, h⟩ := bind_some h
    refine SWp.seqC [1, 4] [1] (fun _ : Unit => ⟨[(1, .ref (.box 1) 0 []), (4, .t (.sl true 1 (List.map vi met45)))], [(1, [.sl false 4 (List.map (GNode.enc false) p1.Nodes), .sl false 5 (List.map (GFn.enc false) p1.Fns)])]⟩) (fun _ => True) (fun _ _ => ?_) fun K19 hK19 => ?_
    rotate_left
    · refine SWp.seqR rfl (hPB _ rfl) fun K hK => ?_
      iterate 4 (refine wps_cons rfl fun K hK => ?_; simp [hN']; refine hK _ ?_; clear hK)
      refine wps_nil (hK _ ?_); clear hK
      refine SWp.block ?_
      refine SWp.loopO [] [1, 4, 39, 40, 41] [1] (fun v : (List Int) × Int => ⟨[(1, .ref (.box 1) 0 []), (4, .t (.sl true 1 (List.map vi v.1))), (39, .t (.sl false 4 (List.map (GNode.enc false) p1.Nodes))), (40, .t (vi (p1.Nodes.length : Int))), (41, .t (vi v.2))], [(1, [.sl false 4 (List.map (GNode.enc false) p1.Nodes), .sl false 5 (List.map (GFn.enc false) p1.Fns)])]⟩) (impl_ProgramOk_l1 p1) _ (l17, 0) hj18 (by simp [hN']) ?_
      intro g s25 h23 ho24
      obtain ⟨met21, v22⟩ := g
      simp only [impl_ProgramOk_l1] at h23
      try dsimp only
      refine SWp.seqR rfl (hPB _ rfl) fun K hK => ?_
      refine wps_cons rfl fun K hK => ?_; simp [hN']; refine hK _ ?_; clear hK
      refine wps_nil (hK _ ?_); clear hK
      refine SWp.seq ?_
      rcases ite_or h23 with ⟨hb26, h23⟩ | ⟨hb27, h23⟩
      · refine SWp.condT' (b := decide (v22 < (p1.Nodes.length : Int))) (by simp) hb26 ?_
        refine SWp.skip ?_
        show SWp E C _ _ _
        obtain ⟨met43, hj28, h23⟩ := bind_some h23
        refine SWp.seqC [1, 4, 39, 40, 41] [1] (fun _ : Unit => ⟨[(1, .ref (.box 1) 0 []), (4, .t (.sl true 1 (List.map vi met43))), (39, .t (.sl false 4 (List.map (GNode.enc false) p1.Nodes))), (40, .t (vi (p1.Nodes.length : Int))), (41, .t (vi v22))], [(1, [.sl false 4 (List.map (GNode.enc false) p1.Nodes), .sl false 5 (List.map (GFn.enc false) p1.Fns)])]⟩) (fun _ => True) (fun _ _ => ?_) fun K29 hK29 => ?_
        rotate_left
        · refine SWp.block ?_
          refine SWp.seqR rfl (hPB _ rfl) fun K hK => ?_
          obtain ⟨e31, he31, hj28⟩ := bind_some hj28
          obtain ⟨he31a, he31b, he31c, he31d⟩ := getI_some he31
          iterate 4 (refine wps_cons rfl fun K hK => ?_; simp [hN', he31a, he31b, he31c, he31d]; refine hK _ ?_; clear hK)
          refine wps_nil (hK _ ?_); clear hK
          refine SWp.seqR rfl (hPB _ rfl) fun K hK => ?_
          iterate 4 (refine wps_cons rfl fun K hK => ?_; simp [hN']; refine hK _ ?_; clear hK)
          refine wps_nil (hK _ ?_); clear hK
          refine SWp.block ?_
          refine SWp.loopO [] [1, 4, 39, 40, 41, 46, 47, 48] [1] (fun v : (List Int) × Int => ⟨[(1, .ref (.box 1) 0 []), (4, .t (.sl true 1 (List.map vi v.1))), (39, .t (.sl false 4 (List.map (GNode.enc false) p1.Nodes))), (40, .t (vi (p1.Nodes.length : Int))), (41, .t (vi v22)), (46, .t (.sl false 1 (List.map vi e31.Kids))), (47, .t (vi (e31.Kids.length : Int))), (48, .t (vi v.2))], [(1, [.sl false 4 (List.map (GNode.enc false) p1.Nodes), .sl false 5 (List.map (GFn.enc false) p1.Fns)])]⟩) (impl_ProgramOk_l2 e31) _ (met21, 0) hj28 (by simp [hN']) ?_
          intro g s36 h34 ho35
          obtain ⟨met32, v33⟩ := g
          simp only [impl_ProgramOk_l2] at h34
          try dsimp only
          refine SWp.seqR rfl (hPB _ rfl) fun K hK => ?_
          refine wps_cons rfl fun K hK => ?_; simp [hN']; refine hK _ ?_; clear hK
          refine wps_nil (hK _ ?_); clear hK
          refine SWp.seq ?_
          rcases ite_or h34 with ⟨hb37, h34⟩ | ⟨hb38, h34⟩
          · refine SWp.condT' (b := decide (v33 < (e31.Kids.length : Int))) (by simp) hb37 ?_
            refine SWp.skip ?_
            show SWp E C _ _ _
            refine SWp.seq ?_
            refine SWp.block ?_
            refine SWp.seqR rfl (hPB _ rfl) fun K hK => ?_
            obtain ⟨e39, he39, h34⟩ := bind_some h34
            obtain ⟨he39a, he39b, he39c, he39d⟩ := getI_some he39
            iterate 3 (refine wps_cons rfl fun K hK => ?_; simp [hN', he39a, he39b, he39c, he39d]; refine hK _ ?_; clear hK)
            refine wps_nil (hK _ ?_); clear hK
            refine SWp.reg rfl (hPB _ rfl) fun K hK => ?_
            iterate 2 (refine wps_cons rfl fun K hK => ?_; simp [hN']; refine hK _ ?_; clear hK)
            obtain ⟨e40, he40, h34⟩ := bind_some h34
            obtain ⟨he40a, he40b, he40c, he40d⟩ := getI_some he40
            iterate 4 (refine wps_cons rfl fun K hK => ?_; simp [hN', he40a, he40b, he40c, he40d]; refine hK _ ?_; clear hK)
            obtain ⟨l41, hl41, h34⟩ := bindS_some h34
            have hl41f : (List.map vi met32).set e39.toNat (vi (IntKind.wrap .i64 (e40 + 1))) = List.map vi l41 := set_map (f := vi) hl41
            try simp only [Int.toNat_natCast] at hl41f
            refine wps_cons rfl fun K hK => ?_; simp [hN', he40a, he40b, he40c, he40d, hl41f]; refine hK _ ?_; clear hK
            refine wps_nil (hK _ ?_); clear hK
            show SWp E C _ _ _
            refine SWp.reg rfl (hPB _ rfl) fun K hK => ?_
            iterate 2 (refine wps_cons rfl fun K hK => ?_; simp [hN']; refine hK _ ?_; clear hK)
            refine wps_nil (hK _ ?_); clear hK
            cases h34
            exact ⟨_, [], rfl, by simp [hN']⟩
          · refine SWp.condF' (b := decide (v33 < (e31.Kids.length : Int))) (by simp) hb38 ?_
            refine SWp.exit ?_
            have h42 := congrArg some (ho35 _ (Option.some.inj h34).symm)
            cases h42
            exact hK29 _ () [] trivial (by simp [hN'])
        refine SWp.reg rfl (hPB _ rfl) fun K hK => ?_
        iterate 2 (refine wps_cons rfl fun K hK => ?_; simp [hN']; refine hK _ ?_; clear hK)
        refine wps_nil (hK _ ?_); clear hK
        cases h23
        exact ⟨_, [], rfl, by simp [hN']⟩
      · refine SWp.condF' (b := decide (v22 < (p1.Nodes.length : Int))) (by simp) hb27 ?_
        refine SWp.exit ?_
        have h44 := congrArg some (ho24 _ (Option.some.inj h23).symm)
        cases h44
        exact hK19 _ () [] trivial (by simp [hN'])
    obtain ⟨j48, hj46, h⟩ := bind_some h
    refine SWp.seqC [4] [] (fun v : List Int => ⟨[(4, .t (.sl true 1 (List.map vi v)))], []⟩) (fun v => j48 = Sum.inl v) (fun v hv => ?_) fun K47 hK47 => ?_
    rotate_left
    · refine SWp.seqR rfl (hPB _ rfl) fun K hK => ?_
      iterate 4 (refine wps_cons rfl fun K hK => ?_; simp [hN']; refine hK _ ?_; clear hK)
      refine wps_nil (hK _ ?_); clear hK
      refine SWp.block ?_
      refine SWp.loopO [] [1, 4, 61, 62, 63] [1] (fun v : (List Int) × Int => ⟨[(1, .ref (.box 1) 0 []), (4, .t (.sl true 1 (List.map vi v.1))), (61, .t (.sl false 5 (List.map (GFn.enc false) p1.Fns))), (62, .t (vi (p1.Fns.length : Int))), (63, .t (vi v.2))], [(1, [.sl false 4 (List.map (GNode.enc false) p1.Nodes), .sl false 5 (List.map (GFn.enc false) p1.Fns)])]⟩) (impl_ProgramOk_l3 p1) _ (met45, 0) hj46 (by simp [hN']) ?_
      intro g s53 h51 ho52
      obtain ⟨met49, v50⟩ := g
      simp only [impl_ProgramOk_l3] at h51
      try dsimp only
      refine SWp.seqR rfl (hPB _ rfl) fun K hK => ?_
      refine wps_cons rfl fun K hK => ?_; simp [hN']; refine hK _ ?_; clear hK
      refine wps_nil (hK _ ?_); clear hK
      refine SWp.seq ?_
      rcases ite_or h51 with ⟨hb54, h51⟩ | ⟨hb55, h51⟩
      · refine SWp.condT' (b := decide (v50 < (p1.Fns.length : Int))) (by simp) hb54 ?_
        refine SWp.skip ?_
        show SWp E C _ _ _
        obtain ⟨j58, hj56, h51⟩ := bind_some h51
        refine SWp.seqC [1, 4, 61, 62, 63] [1] (fun v : List Int => ⟨[(1, .ref (.box 1) 0 []), (4, .t (.sl true 1 (List.map vi v))), (61, .t (.sl false 5 (List.map (GFn.enc false) p1.Fns))), (62, .t (vi (p1.Fns.length : Int))), (63, .t (vi v50))], [(1, [.sl false 4 (List.map (GNode.enc false) p1.Nodes), .sl false 5 (List.map (GFn.enc false) p1.Fns)])]⟩) (fun v => j58 = Sum.inl v) (fun v hv => ?_) fun K57 hK57 => ?_
        rotate_left
        · refine SWp.block ?_
          refine SWp.seqR rfl (hPB _ rfl) fun K hK => ?_
          refine wps_cons rfl fun K hK => ?_; simp [hN']; refine hK _ ?_; clear hK
          obtain ⟨e59, he59, hj56⟩ := bind_some hj56
          obtain ⟨he59a, he59b, he59c, he59d⟩ := getI_some he59
          iterate 5 (refine wps_cons rfl fun K hK => ?_; simp [hN', he59a, he59b, he59c, he59d]; refine hK _ ?_; clear hK)
          refine wps_nil (hK _ ?_); clear hK
          refine SWp.seq ?_
          obtain ⟨v68, hj60, hj56⟩ := bind_some hj56
          refine SWp.seqRC rfl (hPB _ rfl) [1, 4, 10, 61, 62, 63, 79] [1, 10] (fun _ : Unit => ⟨[(1, .ref (.box 1) 0 []), (4, .t (.sl true 1 (List.map vi met49))), (10, .ref (.box 10) 0 []), (61, .t (.sl false 5 (List.map (GFn.enc false) p1.Fns))), (62, .t (vi (p1.Fns.length : Int))), (63, .t (vi v50)), (79, .t (vb v68))], [(1, [.sl false 4 (List.map (GNode.enc false) p1.Nodes), .sl false 5 (List.map (GFn.enc false) p1.Fns)]), (10, [vs e59.Name, .sl false 2 (List.map GParam.enc e59.Params), vi e59.Res, vi e59.Body, vi e59.Ret])]⟩) (fun _ => True) (fun _ _ => ?_) fun K61 hK61 => ?_
          rotate_left
          · refine wps_cons rfl fun K hK => ?_; simp [hN']; refine hK _ ?_; clear hK
            refine wps_cons rfl fun K hK => ?_; simp [hN']; refine hK _ ?_; clear hK
            obtain ⟨r62, hc63, hj60⟩ := bind_some hj60
            refine wps_call [(.take, .tmp 68), (.take, .tmp 69)] rfl rfl ent107 (impl_fnOk_ok _ _ hc63) fun K hK => ?_; simp [hN']; refine hK _ ?_; clear hK
            iterate 2 (refine wps_cons rfl fun K hK => ?_; simp [hN']; refine hK _ ?_; clear hK)
            rcases ite_or hj60 with ⟨hb64, hj60⟩ | ⟨hb65, hj60⟩
            · have hb64s := hb64
              try simp at hb64s
              iterate 6 (refine wps_off fun K hK => ?_; simp [hN', hb64, hb64s]; refine hK _ ?_; clear hK)
              refine wps_cons rfl fun K hK => ?_; simp [hN', hb64, hb64s]; refine hK _ ?_; clear hK
              refine wps_nil ?_
              cases hj60
              exact hK61 _ () [] trivial (by simp [hN', hb64, hb64s])
            · have hb65s := hb65
              try simp at hb65s
              iterate 3 (refine wps_cons rfl fun K hK => ?_; simp [hN', hb65, hb65s]; refine hK _ ?_; clear hK)
              obtain ⟨r66, hc67, hj60⟩ := bind_some hj60
              refine wps_call [(.take, .tmp 73), (.take, .tmp 75)] rfl rfl ent108 (impl_FnAt_ok _ _ hc67) fun K hK => ?_; simp [hN', hb65, hb65s]; refine hK _ ?_; clear hK
              iterate 3 (refine wps_cons rfl fun K hK => ?_; simp [hN', hb65, hb65s]; refine hK _ ?_; clear hK)
              refine wps_nil ?_
              cases hj60
              exact hK61 _ () [] trivial (by simp [hN', hb65, hb65s])
          rcases ite_or hj56 with ⟨hb69, hj56⟩ | ⟨hb70, hj56⟩
          · refine SWp.condT' (b := v68) (by simp) hb69 ?_
            refine SWp.seqR rfl (hPB _ rfl) fun K hK => ?_
            refine wps_cons rfl fun K hK => ?_; simp [hN']; refine hK _ ?_; clear hK
            refine wps_nil (hK _ ?_); clear hK
            cases hj56
            try dsimp only at h51
            have h71 := congrArg some (ho52 _ (Option.some.inj h51).symm)
            cases h71
            try dsimp only at h
            cases h
            refine SWp.ret ?_
            simp [thenS, inBlockS, res66]
          · refine SWp.condF' (b := v68) (by simp) hb70 ?_
            refine SWp.skip ?_
            show SWp E C _ _ _
            refine SWp.seqR rfl (hPB _ rfl) fun K hK => ?_
            iterate 7 (refine wps_cons rfl fun K hK => ?_; simp [hN']; refine hK _ ?_; clear hK)
            refine wps_nil (hK _ ?_); clear hK
            refine SWp.block ?_
            refine SWp.loopO [] [1, 4, 61, 62, 63, 84, 85, 86] [1] (fun v : (List Int) × Int => ⟨[(1, .ref (.box 1) 0 []), (4, .t (.sl true 1 (List.map vi v.1))), (61, .t (.sl false 5 (List.map (GFn.enc false) p1.Fns))), (62, .t (vi (p1.Fns.length : Int))), (63, .t (vi v50)), (84, .t (.sl true 1 (List.map vi [e59.Body, e59.Ret]))), (85, .t (vi ([e59.Body, e59.Ret].length : Int))), (86, .t (vi v.2))], [(1, [.sl false 4 (List.map (GNode.enc false) p1.Nodes), .sl false 5 (List.map (GFn.enc false) p1.Fns)])]⟩) (impl_ProgramOk_l4 e59) _ (met49, 0) hj56 (by simp [hN']) ?_
            intro g s76 h74 ho75
            obtain ⟨met72, v73⟩ := g
            simp only [impl_ProgramOk_l4] at h74
            try dsimp only
            refine SWp.seqR rfl (hPB _ rfl) fun K hK => ?_
            refine wps_cons rfl fun K hK => ?_; simp [hN']; refine hK _ ?_; clear hK
            refine wps_nil (hK _ ?_); clear hK
            refine SWp.seq ?_
            rcases ite_or h74 with ⟨hb77, h74⟩ | ⟨hb78, h74⟩
            · refine SWp.condT' (b := decide (v73 < ([e59.Body, e59.Ret].length : Int))) (by simp) hb77 ?_
              refine SWp.skip ?_
              show SWp E C _ _ _
              refine SWp.seq ?_
              refine SWp.block ?_
              refine SWp.seqR rfl (hPB _ rfl) fun K hK => ?_
              obtain ⟨e79, he79, h74⟩ := bind_some h74
              obtain ⟨he79a, he79b, he79c, he79d⟩ := getI_some he79
              have he79k := he79b; try simp at he79k
              have he79l : (List.map vi [e59.Body, e59.Ret])[v73.toNat]? = some (vi e79) := by rw [List.getElem?_map, he79c]; rfl
              try simp only [List.map_cons, List.map_nil] at he79l
              have he79m := (List.getElem?_eq_some_iff.1 he79l).2
              iterate 3 (refine wps_cons rfl fun K hK => ?_; simp [hN', he79a, he79b, he79c, he79d, he79k, he79l, he79m]; refine hK _ ?_; clear hK)
              refine wps_nil (hK _ ?_); clear hK
              refine SWp.seq ?_
              refine SWp.seqR rfl (hPB _ rfl) fun K hK => ?_
              iterate 2 (refine wps_cons rfl fun K hK => ?_; simp [hN']; refine hK _ ?_; clear hK)
              refine wps_nil (hK _ ?_); clear hK
              rcases ite_or h74 with ⟨hb80, h74⟩ | ⟨hb81, h74⟩
              · refine SWp.condT' (b := decide (e79 < 0)) (by simp) hb80 ?_
                refine SWp.exit ?_
                show SWp E C _ _ _
                refine SWp.reg rfl (hPB _ rfl) fun K hK => ?_
                iterate 2 (refine wps_cons rfl fun K hK => ?_; simp [hN']; refine hK _ ?_; clear hK)
                refine wps_nil (hK _ ?_); clear hK
                cases h74
                exact ⟨_, [], rfl, by simp [hN']⟩
              · refine SWp.condF' (b := decide (e79 < 0)) (by simp) hb81 ?_
                refine SWp.skip ?_
                show SWp E C _ _ _
                refine SWp.seq ?_
                refine SWp.seqR rfl (hPB _ rfl) fun K hK => ?_
                iterate 2 (refine wps_cons rfl fun K hK => ?_; simp [hN']; refine hK _ ?_; clear hK)
                obtain ⟨e82, he82, h74⟩ := bind_some h74
                obtain ⟨he82a, he82b, he82c, he82d⟩ := getI_some he82
                iterate 3 (refine wps_cons rfl fun K hK => ?_; simp [hN', he82a, he82b, he82c, he82d]; refine hK _ ?_; clear hK)
                refine wps_nil (hK _ ?_); clear hK
                rcases ite_or h74 with ⟨hb83, h74⟩ | ⟨hb84, h74⟩
                · refine SWp.condT' (b := e82 != 0) (by simp) hb83 ?_
                  refine SWp.seqR rfl (hPB _ rfl) fun K hK => ?_
                  refine wps_cons rfl fun K hK => ?_; simp [hN']; refine hK _ ?_; clear hK
                  refine wps_nil (hK _ ?_); clear hK
                  have h85 := congrArg some (ho75 _ (Option.some.inj h74).symm)
                  cases h85
                  try dsimp only at h51
                  have h86 := congrArg some (ho52 _ (Option.some.inj h51).symm)
                  cases h86
                  try dsimp only at h
                  cases h
                  refine SWp.ret ?_
                  simp [thenS, inBlockS, res66]
                · refine SWp.condF' (b := e82 != 0) (by simp) hb84 ?_
                  refine SWp.skip ?_
                  show SWp E C _ _ _
                  refine SWp.reg rfl (hPB _ rfl) fun K hK => ?_
                  iterate 2 (refine wps_cons rfl fun K hK => ?_; simp [hN']; refine hK _ ?_; clear hK)
                  obtain ⟨e87, he87, h74⟩ := bind_some h74
                  obtain ⟨he87a, he87b, he87c, he87d⟩ := getI_some he87
                  refine wps_cons rfl fun K hK => ?_; simp [hN', he87a, he87b, he87c, he87d]; refine hK _ ?_; clear hK
                  obtain ⟨l88, hl88, h74⟩ := bindS_some h74
                  have hl88f : (List.map vi met72).set e79.toNat (vi (-1)) = List.map vi l88 := set_map (f := vi) hl88
                  try simp only [Int.toNat_natCast] at hl88f
                  refine wps_cons rfl fun K hK => ?_; simp [hN', he87a, he87b, he87c, he87d, hl88f]; refine hK _ ?_; clear hK
                  refine wps_nil (hK _ ?_); clear hK
                  show SWp E C _ _ _
                  refine SWp.reg rfl (hPB _ rfl) fun K hK => ?_
                  iterate 2 (refine wps_cons rfl fun K hK => ?_; simp [hN']; refine hK _ ?_; clear hK)
                  refine wps_nil (hK _ ?_); clear hK
                  cases h74
                  exact ⟨_, [], rfl, by simp [hN']⟩
            · refine SWp.condF' (b := decide (v73 < ([e59.Body, e59.Ret].length : Int))) (by simp) hb78 ?_
              refine SWp.exit ?_
              have h89 := congrArg some (ho75 _ (Option.some.inj h74).symm)
              cases h89
              exact hK57 _ _ [] rfl (by simp [hN'])
        subst hv
        obtain ⟨met90, hv⟩ : ∃ y, y = v := ⟨_, rfl⟩
        subst hv
        try dsimp only at h51 ⊢
        refine SWp.reg rfl (hPB _ rfl) fun K hK => ?_
        iterate 2 (refine wps_cons rfl fun K hK => ?_; simp [hN']; refine hK _ ?_; clear hK)
        refine wps_nil (hK _ ?_); clear hK
        cases h51
        exact ⟨_, [], rfl, by simp [hN']⟩
      · refine SWp.condF' (b := decide (v50 < (p1.Fns.length : Int))) (by simp) hb55 ?_
        refine SWp.exit ?_
        have h91 := congrArg some (ho52 _ (Option.some.inj h51).symm)
        cases h91
        exact hK47 _ _ [] rfl (by simp [hN'])
    subst hv
    obtain ⟨met92, hv⟩ : ∃ y, y = v := ⟨_, rfl⟩
    subst hv
    try dsimp only at h ⊢
    obtain ⟨j95, hj93, h⟩ := bind_some h
    refine SWp.seqC [] [] (fun v : Unit => ⟨[], []⟩) (fun v => j95 = Sum.inl v) (fun v hv => ?_) fun K94 hK94 => ?_
    rotate_left
    · refine SWp.seqR rfl (hPB _ rfl) fun K hK => ?_
      iterate 3 (refine wps_cons rfl fun K hK => ?_; simp [hN']; refine hK _ ?_; clear hK)
      refine wps_nil (hK _ ?_); clear hK
      refine SWp.block ?_
      refine SWp.loopO [] [4, 102, 103, 104] [] (fun v : Int => ⟨[(4, .t (.sl true 1 (List.map vi met92))), (102, .al (.slot 4) 0 [] none), (103, .t (vi (met92.length : Int))), (104, .t (vi v))], []⟩) (impl_ProgramOk_l5 met92) _ 0 hj93 (by simp [hN']) ?_
      intro g s99 h97 ho98
      obtain ⟨v96, hg⟩ : ∃ y, y = g := ⟨_, rfl⟩
      subst hg
      simp only [impl_ProgramOk_l5] at h97
      try dsimp only
      refine SWp.seqR rfl (hPB _ rfl) fun K hK => ?_
      refine wps_cons rfl fun K hK => ?_; simp [hN']; refine hK _ ?_; clear hK
      refine wps_nil (hK _ ?_); clear hK
      refine SWp.seq ?_
      rcases ite_or h97 with ⟨hb100, h97⟩ | ⟨hb101, h97⟩
      · refine SWp.condT' (b := decide (v96 < (met92.length : Int))) (by simp) hb100 ?_
        refine SWp.skip ?_
        show SWp E C _ _ _
        refine SWp.seq ?_
        refine SWp.block ?_
        refine SWp.seqR rfl (hPB _ rfl) fun K hK => ?_
        obtain ⟨e102, he102, h97⟩ := bind_some h97
        obtain ⟨he102a, he102b, he102c, he102d⟩ := getI_some he102
        iterate 3 (refine wps_cons rfl fun K hK => ?_; simp [hN', he102a, he102b, he102c, he102d]; refine hK _ ?_; clear hK)
        refine wps_nil (hK _ ?_); clear hK
        obtain ⟨v107, hj103, h97⟩ := bind_some h97
        refine SWp.seqRC rfl (hPB _ rfl) [4, 102, 103, 104, 113] [] (fun _ : Unit => ⟨[(4, .t (.sl true 1 (List.map vi met92))), (102, .al (.slot 4) 0 [] none), (103, .t (vi (met92.length : Int))), (104, .t (vi v96)), (113, .t (vb v107))], []⟩) (fun _ => True) (fun _ _ => ?_) fun K104 hK104 => ?_
        rotate_left
        · refine wps_cons rfl fun K hK => ?_; simp [hN']; refine hK _ ?_; clear hK
          iterate 2 (refine wps_cons rfl fun K hK => ?_; simp [hN']; refine hK _ ?_; clear hK)
          rcases ite_or hj103 with ⟨hb105, hj103⟩ | ⟨hb106, hj103⟩
          · have hb105s := hb105
            try simp at hb105s
            iterate 3 (refine wps_cons rfl fun K hK => ?_; simp [hN', hb105, hb105s]; refine hK _ ?_; clear hK)
            refine wps_nil ?_
            cases hj103
            exact hK104 _ () [] trivial (by simp [hN', hb105, hb105s])
          · have hb106s := hb106
            try simp at hb106s
            iterate 2 (refine wps_off fun K hK => ?_; simp [hN', hb106, hb106s]; refine hK _ ?_; clear hK)
            refine wps_cons rfl fun K hK => ?_; simp [hN', hb106, hb106s]; refine hK _ ?_; clear hK
            refine wps_nil ?_
            cases hj103
            exact hK104 _ () [] trivial (by simp [hN', hb106, hb106s])
        rcases ite_or h97 with ⟨hb108, h97⟩ | ⟨hb109, h97⟩
        · refine SWp.condT' (b := v107) (by simp) hb108 ?_
          refine SWp.seqR rfl (hPB _ rfl) fun K hK => ?_
          refine wps_cons rfl fun K hK => ?_; simp [hN']; refine hK _ ?_; clear hK
          refine wps_nil (hK _ ?_); clear hK
          have h110 := congrArg some (ho98 _ (Option.some.inj h97).symm)
          cases h110
          try dsimp only at h
          cases h
          refine SWp.ret ?_
          simp [thenS, inBlockS, res66]
        · refine SWp.condF' (b := v107) (by simp) hb109 ?_
          refine SWp.skip ?_
          show SWp E C _ _ _
          refine SWp.reg rfl (hPB _ rfl) fun K hK => ?_
          iterate 2 (refine wps_cons rfl fun K hK => ?_; simp [hN']; refine hK _ ?_; clear hK)
          refine wps_nil (hK _ ?_); clear hK
          cases h97
          exact ⟨_, [], rfl, by simp [hN']⟩
      · refine SWp.condF' (b := decide (v96 < (met92.length : Int))) (by simp) hb101 ?_
        refine SWp.exit ?_
        have h111 := congrArg some (ho98 _ (Option.some.inj h97).symm)
        cases h111
        exact hK94 _ _ [] rfl (by simp [hN'])
    subst hv
    obtain ⟨⟩ := v
    try dsimp only at h ⊢
    refine SWp.seqR rfl (hPB _ rfl) fun K hK => ?_
    refine wps_cons rfl fun K hK => ?_; simp [hN']; refine hK _ ?_; clear hK
    refine wps_nil (hK _ ?_); clear hK
    cases h
    refine SWp.ret ?_
    simp [thenS, inBlockS, res66]
end Go.Proofs.T
set_option linter.unusedVariables false
set_option linter.unusedSimpArgs false
set_option maxHeartbeats 1000000
namespace Go.Proofs.T
open Go.OM
theorem res69 : Tryd.f69.results.toList = [.tmp 4] := rfl
theorem ent69 : Enters E.P 69 := enters_of Tryd.func69 (by simp [Tryd.f69]) rfl
theorem impl_KindCount_ok (p1 : GProgram) (kind2 : Int) {r0 : Int} (h : impl_KindCount p1 kind2 = some r0) : Ok E 69 [.val (GProgram.enc false p1), .val (vi kind2)] [vi r0] [] := by
  refine ok_of_body (fn := Tryd.f69) Tryd.func69 rfl (by simp [Tryd.f69]) fun C hN hP => ?_
  have hPB : ∀ l, pinK [] l = true → pinB C.pin l = true := pinB_of (by rw [hP]; rfl)
  have hN' : C.N = 23 := hN
  clear hN
  unfold impl_KindCount at h
  refine SWp.seqR rfl (hPB _ rfl) fun K hK => ?_
  iterate 2 (refine wps_cons rfl fun K hK => ?_; simp [hN']; refine hK _ ?_; clear hK)
  refine wps_nil (hK _ ?_); clear hK
  refine SWp.seqR rfl (hPB _ rfl) fun K hK => ?_
  refine wps_cons rfl fun K hK => ?_; simp [hN']; refine hK _ ?_; clear hK
  refine wps_nil (hK _ ?_); clear hK
  obtain ⟨n17, hj3, h⟩ := bind_some h
  refine SWp.seqC [5] [] (fun _ : Unit => ⟨[(5, .t (vi n17))], []⟩) (fun _ => True) (fun _ _ => ?_) fun K4 hK4 => ?_
  rotate_left
  · refine SWp.seqR rfl (hPB _ rfl) fun K hK => ?_
    iterate 4 (refine wps_cons rfl fun K hK => ?_; simp [hN']; refine hK _ ?_; clear hK)
    refine wps_nil (hK _ ?_); clear hK
    refine SWp.block ?_
    refine SWp.loopO [] [1, 5, 9, 10, 11] [] (fun v : Int × Int => ⟨[(1, .t (vi kind2)), (5, .t (vi v.1)), (9, .t (.sl false 4 (List.map (GNode.enc false) p1.Nodes))), (10, .t (vi (p1.Nodes.length : Int))), (11, .t (vi v.2))], []⟩) (impl_KindCount_l1 p1 kind2) _ (0, 0) hj3 (by simp [hN']) ?_
    intro g s10 h8 ho9
    obtain ⟨n6, v7⟩ := g
    simp only [impl_KindCount_l1] at h8
    try dsimp only
    refine SWp.seqR rfl (hPB _ rfl) fun K hK => ?_
    refine wps_cons rfl fun K hK => ?_; simp [hN']; refine hK _ ?_; clear hK
    refine wps_nil (hK _ ?_); clear hK
    refine SWp.seq ?_
    rcases ite_or h8 with ⟨hb11, h8⟩ | ⟨hb12, h8⟩
    · refine SWp.condT' (b := decide (v7 < (p1.Nodes.length : Int))) (by simp) hb11 ?_
      refine SWp.skip ?_
      show SWp E C _ _ _
      refine SWp.seq ?_
      refine SWp.block ?_
      refine SWp.seqR rfl (hPB _ rfl) fun K hK => ?_
      obtain ⟨e13, he13, h8⟩ := bind_some h8
      obtain ⟨he13a, he13b, he13c, he13d⟩ := getI_some he13
      iterate 4 (refine wps_cons rfl fun K hK => ?_; simp [hN', he13a, he13b, he13c, he13d]; refine hK _ ?_; clear hK)
      refine wps_nil (hK _ ?_); clear hK
      refine SWp.seqR rfl (hPB _ rfl) fun K hK => ?_
      iterate 4 (refine wps_cons rfl fun K hK => ?_; simp [hN']; refine hK _ ?_; clear hK)
      refine wps_nil (hK _ ?_); clear hK
      rcases ite_or h8 with ⟨hb14, h8⟩ | ⟨hb15, h8⟩
      · refine SWp.condT' (b := e13.Kind == kind2) (by simp) hb14 ?_
        refine SWp.reg rfl (hPB _ rfl) fun K hK => ?_
        iterate 3 (refine wps_cons rfl fun K hK => ?_; simp [hN']; refine hK _ ?_; clear hK)
        refine wps_nil (hK _ ?_); clear hK
        show SWp E C _ _ _
        refine SWp.reg rfl (hPB _ rfl) fun K hK => ?_
        iterate 2 (refine wps_cons rfl fun K hK => ?_; simp [hN']; refine hK _ ?_; clear hK)
        refine wps_nil (hK _ ?_); clear hK
        cases h8
        exact ⟨_, [], rfl, by simp [hN']⟩
      · refine SWp.condF' (b := e13.Kind == kind2) (by simp) hb15 ?_
        refine SWp.skip ?_
        show SWp E C _ _ _
        refine SWp.reg rfl (hPB _ rfl) fun K hK => ?_
        iterate 2 (refine wps_cons rfl fun K hK => ?_; simp [hN']; refine hK _ ?_; clear hK)
        refine wps_nil (hK _ ?_); clear hK
        cases h8
        exact ⟨_, [], rfl, by simp [hN']⟩
    · refine SWp.condF' (b := decide (v7 < (p1.Nodes.length : Int))) (by simp) hb12 ?_
      refine SWp.exit ?_
      have h16 := congrArg some (ho9 _ (Option.some.inj h8).symm)
      cases h16
      exact hK4 _ () [] trivial (by simp [hN'])
  refine SWp.seqR rfl (hPB _ rfl) fun K hK => ?_
  iterate 2 (refine wps_cons rfl fun K hK => ?_; simp [hN']; refine hK _ ?_; clear hK)
  refine wps_nil (hK _ ?_); clear hK
  cases h
  refine SWp.ret ?_
  simp [thenS, inBlockS, res69]
end Go.Proofs.T
set_option linter.unusedVariables false
set_option linter.unusedSimpArgs false
set_option maxHeartbeats 1000000
namespace Go.Proofs.T
open Go.OM
theorem res27 : Tryd.f27.results.toList = [.cell 2 47] := rfl
theorem ent27 : Enters E.P 27 := enters_of Tryd.func27 (by simp [Tryd.f27]) rfl
theorem impl_Measured_ok (p1 : GProgram) {r0 : GMeasure} (h : impl_Measured p1 = some r0) : Ok E 27 [.val (GProgram.enc false p1)] [GMeasure.enc r0] [] := by
  refine ok_of_body (fn := Tryd.f27) Tryd.func27 rfl (by simp [Tryd.f27]) fun C hN hP => ?_
  have hPB : ∀ l, pinK [] l = true → pinB C.pin l = true := pinB_of (by rw [hP]; rfl)
  have hN' : C.N = 83 := hN
  clear hN
  unfold impl_Measured at h
  refine SWp.seqR rfl (hPB _ rfl) fun K hK => ?_
  iterate 2 (refine wps_cons rfl fun K hK => ?_; simp [hN']; refine hK _ ?_; clear hK)
  refine wps_nil (hK _ ?_); clear hK
  refine SWp.seq ?_
  refine SWp.seqR rfl (hPB _ rfl) fun K hK => ?_
  refine wps_cons rfl fun K hK => ?_; simp [hN']; refine hK _ ?_; clear hK
  obtain ⟨r2, hc3, h⟩ := bind_some h
  refine wps_call [(.take, .tmp 10)] rfl rfl ent66 (impl_ProgramOk_ok _ hc3) fun K hK => ?_; simp [hN']; refine hK _ ?_; clear hK
  refine wps_cons rfl fun K hK => ?_; simp [hN']; refine hK _ ?_; clear hK
  refine wps_nil (hK _ ?_); clear hK
  rcases ite_or h with ⟨hb4, h⟩ | ⟨hb5, h⟩
  · refine SWp.condT' (b := !r2) (by simp) hb4 ?_
    refine SWp.seqR rfl (hPB _ rfl) fun K hK => ?_
    iterate 2 (refine wps_cons rfl fun K hK => ?_; simp [hN']; refine hK _ ?_; clear hK)
    refine wps_nil (hK _ ?_); clear hK
    cases h
    refine SWp.ret ?_
    simp [thenS, inBlockS, res27]
  · refine SWp.condF' (b := !r2) (by simp) hb5 ?_
    refine SWp.skip ?_
    show SWp E C _ _ _
    refine SWp.seqR rfl (hPB _ rfl) fun K hK => ?_
    iterate 9 (refine wps_cons rfl fun K hK => ?_; simp [hN']; refine hK _ ?_; clear hK)
    refine wps_nil (hK _ ?_); clear hK
    obtain ⟨v26, hj6, h⟩ := bind_some h
    refine SWp.seqC [1, 2, 3] [1, 2, 3] (fun _ : Unit => ⟨[(1, .ref (.box 1) 0 []), (2, .ref (.box 2) 0 []), (3, .ref (.box 3) 0 [])], [(1, [.sl false 4 (List.map (GNode.enc false) p1.Nodes), .sl false 5 (List.map (GFn.enc false) p1.Fns)]), (2, [vi 0, vi 0, vi 0, vi 0, vi 0, vi 0, vi 0, vi 0, vi 0]), (3, [vi v26.Fns, vi v26.Nodes, vi v26.Steps, vi v26.Values, vi v26.Blocks, vi v26.Lets, vi v26.News, vi v26.Lends, vi v26.Deep])]⟩) (fun _ => True) (fun _ _ => ?_) fun K7 hK7 => ?_
    rotate_left
    · refine SWp.seqR rfl (hPB _ rfl) fun K hK => ?_
      iterate 4 (refine wps_cons rfl fun K hK => ?_; simp [hN']; refine hK _ ?_; clear hK)
      refine wps_nil (hK _ ?_); clear hK
      refine SWp.block ?_
      refine SWp.loopO [] [1, 2, 3, 22, 23, 24] [1, 2, 3] (fun v : Int × GMeasure => ⟨[(1, .ref (.box 1) 0 []), (2, .ref (.box 2) 0 []), (3, .ref (.box 3) 0 []), (22, .t (.sl false 4 (List.map (GNode.enc false) p1.Nodes))), (23, .t (vi (p1.Nodes.length : Int))), (24, .t (vi v.1))], [(1, [.sl false 4 (List.map (GNode.enc false) p1.Nodes), .sl false 5 (List.map (GFn.enc false) p1.Fns)]), (2, [vi 0, vi 0, vi 0, vi 0, vi 0, vi 0, vi 0, vi 0, vi 0]), (3, [vi v.2.Fns, vi v.2.Nodes, vi v.2.Steps, vi v.2.Values, vi v.2.Blocks, vi v.2.Lets, vi v.2.News, vi v.2.Lends, vi v.2.Deep])]⟩) (impl_Measured_l1 p1) _ (0, (⟨(p1.Fns.length : Int), (p1.Nodes.length : Int), 0, 0, 0, 0, 0, 0, 0⟩ : GMeasure)) hj6 (by simp [hN']) ?_
      intro g s13 h11 ho12
      obtain ⟨v9, v10⟩ := g
      simp only [impl_Measured_l1] at h11
      try dsimp only
      refine SWp.seqR rfl (hPB _ rfl) fun K hK => ?_
      refine wps_cons rfl fun K hK => ?_; simp [hN']; refine hK _ ?_; clear hK
      refine wps_nil (hK _ ?_); clear hK
      refine SWp.seq ?_
      rcases ite_or h11 with ⟨hb14, h11⟩ | ⟨hb15, h11⟩
      · refine SWp.condT' (b := decide (v9 < (p1.Nodes.length : Int))) (by simp) hb14 ?_
        refine SWp.skip ?_
        show SWp E C _ _ _
        refine SWp.seq ?_
        refine SWp.block ?_
        refine SWp.seqR rfl (hPB _ rfl) fun K hK => ?_
        obtain ⟨e16, he16, h11⟩ := bind_some h11
        obtain ⟨he16a, he16b, he16c, he16d⟩ := getI_some he16
        iterate 4 (refine wps_cons rfl fun K hK => ?_; simp [hN', he16a, he16b, he16c, he16d]; refine hK _ ?_; clear hK)
        refine wps_nil (hK _ ?_); clear hK
        refine SWp.block ?_
        refine SWp.seqR rfl (hPB _ rfl) fun K hK => ?_
        iterate 2 (refine wps_cons rfl fun K hK => ?_; simp [hN']; refine hK _ ?_; clear hK)
        obtain ⟨r17, hc18, h11⟩ := bind_some h11
        refine wps_call [(.take, .tmp 30)] rfl rfl ent67 (impl_isStep_ok _ hc18) fun K hK => ?_; simp [hN']; refine hK _ ?_; clear hK
        refine wps_cons rfl fun K hK => ?_; simp [hN']; refine hK _ ?_; clear hK
        refine wps_nil (hK _ ?_); clear hK
        rcases ite_or h11 with ⟨hb19, h11⟩ | ⟨hb20, h11⟩
        · refine SWp.condT' (b := r17) (by simp) hb19 ?_
          refine SWp.reg rfl (hPB _ rfl) fun K hK => ?_
          iterate 5 (refine wps_cons rfl fun K hK => ?_; simp [hN']; refine hK _ ?_; clear hK)
          refine wps_nil (hK _ ?_); clear hK
          show SWp E C _ _ _
          refine SWp.reg rfl (hPB _ rfl) fun K hK => ?_
          iterate 2 (refine wps_cons rfl fun K hK => ?_; simp [hN']; refine hK _ ?_; clear hK)
          refine wps_nil (hK _ ?_); clear hK
          cases h11
          exact ⟨_, [], rfl, by simp [hN']⟩
        · refine SWp.condF' (b := r17) (by simp) hb20 ?_
          refine SWp.seqR rfl (hPB _ rfl) fun K hK => ?_
          iterate 2 (refine wps_cons rfl fun K hK => ?_; simp [hN']; refine hK _ ?_; clear hK)
          obtain ⟨r21, hc22, h11⟩ := bind_some h11
          refine wps_call [(.take, .tmp 38)] rfl rfl ent68 (impl_isValue_ok _ hc22) fun K hK => ?_; simp [hN']; refine hK _ ?_; clear hK
          refine wps_cons rfl fun K hK => ?_; simp [hN']; refine hK _ ?_; clear hK
          refine wps_nil (hK _ ?_); clear hK
          rcases ite_or h11 with ⟨hb23, h11⟩ | ⟨hb24, h11⟩
          · refine SWp.condT' (b := r21) (by simp) hb23 ?_
            refine SWp.reg rfl (hPB _ rfl) fun K hK => ?_
            iterate 5 (refine wps_cons rfl fun K hK => ?_; simp [hN']; refine hK _ ?_; clear hK)
            refine wps_nil (hK _ ?_); clear hK
            show SWp E C _ _ _
            refine SWp.reg rfl (hPB _ rfl) fun K hK => ?_
            iterate 2 (refine wps_cons rfl fun K hK => ?_; simp [hN']; refine hK _ ?_; clear hK)
            refine wps_nil (hK _ ?_); clear hK
            cases h11
            exact ⟨_, [], rfl, by simp [hN']⟩
          · refine SWp.condF' (b := r21) (by simp) hb24 ?_
            refine SWp.skip ?_
            show SWp E C _ _ _
            refine SWp.reg rfl (hPB _ rfl) fun K hK => ?_
            iterate 2 (refine wps_cons rfl fun K hK => ?_; simp [hN']; refine hK _ ?_; clear hK)
            refine wps_nil (hK _ ?_); clear hK
            cases h11
            exact ⟨_, [], rfl, by simp [hN']⟩
      · refine SWp.condF' (b := decide (v9 < (p1.Nodes.length : Int))) (by simp) hb15 ?_
        refine SWp.exit ?_
        have h25 := congrArg some (ho12 _ (Option.some.inj h11).symm)
        cases h25
        exact hK7 _ () [] trivial (by simp [hN'])
    refine SWp.seqR rfl (hPB _ rfl) fun K hK => ?_
    refine wps_cons rfl fun K hK => ?_; simp [hN']; refine hK _ ?_; clear hK
    obtain ⟨r27, hc28, h⟩ := bind_some h
    refine wps_call [(.take, .tmp 45), (.take, .const (.int .i64 20))] rfl rfl ent69 (impl_KindCount_ok _ _ hc28) fun K hK => ?_; simp [hN']; refine hK _ ?_; clear hK
    iterate 2 (refine wps_cons rfl fun K hK => ?_; simp [hN']; refine hK _ ?_; clear hK)
    refine wps_nil (hK _ ?_); clear hK
    refine SWp.seqR rfl (hPB _ rfl) fun K hK => ?_
    refine wps_cons rfl fun K hK => ?_; simp [hN']; refine hK _ ?_; clear hK
    obtain ⟨r29, hc30, h⟩ := bind_some h
    refine wps_call [(.take, .tmp 48), (.take, .const (.int .i64 13))] rfl rfl ent69 (impl_KindCount_ok _ _ hc30) fun K hK => ?_; simp [hN']; refine hK _ ?_; clear hK
    iterate 2 (refine wps_cons rfl fun K hK => ?_; simp [hN']; refine hK _ ?_; clear hK)
    refine wps_nil (hK _ ?_); clear hK
    refine SWp.seqR rfl (hPB _ rfl) fun K hK => ?_
    refine wps_cons rfl fun K hK => ?_; simp [hN']; refine hK _ ?_; clear hK
    obtain ⟨r31, hc32, h⟩ := bind_some h
    refine wps_call [(.take, .tmp 51), (.take, .const (.int .i64 8))] rfl rfl ent69 (impl_KindCount_ok _ _ hc32) fun K hK => ?_; simp [hN']; refine hK _ ?_; clear hK
    iterate 2 (refine wps_cons rfl fun K hK => ?_; simp [hN']; refine hK _ ?_; clear hK)
    refine wps_nil (hK _ ?_); clear hK
    refine SWp.seq ?_
    obtain ⟨r34, hc35, h⟩ := bind_some h
    refine SWp.drawT rfl (hPB _ rfl) [(54, .t (GProgram.enc false p1)), (55, .t (vi r34)), (56, .t (GProgram.enc false p1))] [[], [0], [], [0, 1, 2], [0, 1, 2, 3], [0, 1, 2, 3, 4], [0, 1, 2, 3, 4, 5]] (by simp) (by simp) (by simp [look]) rfl rfl rfl ?_ fun K hK => ?_
    · refine ⟨?_, ?_, ?_, trivial⟩
      all_goals (intro τ hbx hb hd hf K hK; try simp [vsAt] at hd; simp [vsAt] at hf; first | (refine wps_cons rfl fun K' hK' => ?_; simp [hN', hbx, hb, hd, hf]; exact hK' _ (wps_nil (hK _ (by simp [vsAt, hbx])))) | (refine wps_call [(.take, .tmp 54), (.take, .const (.int .i64 5))] rfl rfl ent69 (impl_KindCount_ok _ _ hc35) fun K' hK' => ?_; simp [hN', hbx, hb, hd, hf]; exact hK' _ (wps_nil (hK _ (by simp [vsAt, hbx])))))
    obtain ⟨r36, hc37, h⟩ := bind_some h
    refine wps_call [(.take, .tmp 56), (.take, .const (.int .i64 6))] rfl rfl ent69 (impl_KindCount_ok _ _ hc37) fun K hK => ?_; simp [hN']; refine hK _ ?_; clear hK
    iterate 3 (refine wps_cons rfl fun K hK => ?_; simp [hN']; refine hK _ ?_; clear hK)
    refine wps_nil (hK _ ?_); clear hK
    show SWp E C _ _ _
    refine SWp.seqR rfl (hPB _ rfl) fun K hK => ?_
    iterate 6 (refine wps_cons rfl fun K hK => ?_; simp [hN']; refine hK _ ?_; clear hK)
    obtain ⟨⟨r38, r39⟩, hc40, h⟩ := bind_some h
    try dsimp only at h
    refine wps_call [(.take, .tmp 62), (.take, .tmp 66)] rfl rfl ent70 (impl_depths_ok _ _ hc40) fun K hK => ?_; simp [hN']; refine hK _ ?_; clear hK
    iterate 5 (refine wps_cons rfl fun K hK => ?_; simp [hN']; refine hK _ ?_; clear hK)
    refine wps_nil (hK _ ?_); clear hK
    obtain ⟨v53, hj41, h⟩ := bind_some h
    refine SWp.seqC [2, 3] [2, 3] (fun _ : Unit => ⟨[(2, .ref (.box 2) 0 []), (3, .ref (.box 3) 0 [])], [(2, [vi 0, vi 0, vi 0, vi 0, vi 0, vi 0, vi 0, vi 0, vi 0]), (3, [vi v53.Fns, vi v53.Nodes, vi v53.Steps, vi v53.Values, vi v53.Blocks, vi v53.Lets, vi v53.News, vi v53.Lends, vi v53.Deep])]⟩) (fun _ => True) (fun _ _ => ?_) fun K42 hK42 => ?_
    rotate_left
    · refine SWp.seqR rfl (hPB _ rfl) fun K hK => ?_
      iterate 3 (refine wps_cons rfl fun K hK => ?_; simp [hN']; refine hK _ ?_; clear hK)
      refine wps_nil (hK _ ?_); clear hK
      refine SWp.block ?_
      refine SWp.loopO [] [2, 3, 6, 70, 71, 72] [2, 3] (fun v : Int × GMeasure => ⟨[(2, .ref (.box 2) 0 []), (3, .ref (.box 3) 0 []), (6, .t (.sl true 1 (List.map vi r38))), (70, .al (.slot 6) 0 [] none), (71, .t (vi (r38.length : Int))), (72, .t (vi v.1))], [(2, [vi 0, vi 0, vi 0, vi 0, vi 0, vi 0, vi 0, vi 0, vi 0]), (3, [vi v.2.Fns, vi v.2.Nodes, vi v.2.Steps, vi v.2.Values, vi v.2.Blocks, vi v.2.Lets, vi v.2.News, vi v.2.Lends, vi v.2.Deep])]⟩) (impl_Measured_l2 r38) _ (0, (⟨v26.Fns, v26.Nodes, v26.Steps, v26.Values, r27, r29, r31, IntKind.wrap .i64 (r34 + r36), v26.Deep⟩ : GMeasure)) hj41 (by simp [hN']) ?_
      intro g s48 h46 ho47
      obtain ⟨v44, v45⟩ := g
      simp only [impl_Measured_l2] at h46
      try dsimp only
      refine SWp.seqR rfl (hPB _ rfl) fun K hK => ?_
      refine wps_cons rfl fun K hK => ?_; simp [hN']; refine hK _ ?_; clear hK
      refine wps_nil (hK _ ?_); clear hK
      refine SWp.seq ?_
      rcases ite_or h46 with ⟨hb49, h46⟩ | ⟨hb50, h46⟩
      · refine SWp.condT' (b := decide (v44 < (r38.length : Int))) (by simp) hb49 ?_
        refine SWp.skip ?_
        show SWp E C _ _ _
        refine SWp.seq ?_
        refine SWp.block ?_
        refine SWp.seqR rfl (hPB _ rfl) fun K hK => ?_
        obtain ⟨e51, he51, h46⟩ := bind_some h46
        obtain ⟨he51a, he51b, he51c, he51d⟩ := getI_some he51
        iterate 3 (refine wps_cons rfl fun K hK => ?_; simp [hN', he51a, he51b, he51c, he51d]; refine hK _ ?_; clear hK)
        refine wps_nil (hK _ ?_); clear hK
        refine SWp.reg rfl (hPB _ rfl) fun K hK => ?_
        iterate 6 (refine wps_cons rfl fun K hK => ?_; simp [hN']; refine hK _ ?_; clear hK)
        refine wps_nil (hK _ ?_); clear hK
        show SWp E C _ _ _
        refine SWp.reg rfl (hPB _ rfl) fun K hK => ?_
        iterate 2 (refine wps_cons rfl fun K hK => ?_; simp [hN']; refine hK _ ?_; clear hK)
        refine wps_nil (hK _ ?_); clear hK
        cases h46
        exact ⟨_, [], rfl, by simp [hN']⟩
      · refine SWp.condF' (b := decide (v44 < (r38.length : Int))) (by simp) hb50 ?_
        refine SWp.exit ?_
        have h52 := congrArg some (ho47 _ (Option.some.inj h46).symm)
        cases h52
        exact hK42 _ () [] trivial (by simp [hN'])
    refine SWp.seqR rfl (hPB _ rfl) fun K hK => ?_
    iterate 2 (refine wps_cons rfl fun K hK => ?_; simp [hN']; refine hK _ ?_; clear hK)
    refine wps_nil (hK _ ?_); clear hK
    cases h
    refine SWp.ret ?_
    simp [thenS, inBlockS, res27]
end Go.Proofs.T
set_option linter.unusedVariables false
set_option linter.unusedSimpArgs false
set_option maxHeartbeats 1000000
namespace Go.Proofs.T
open Go.OM
theorem res28 : Tryd.f28.results.toList = [.tmp 4] := rfl
theorem ent28 : Enters E.P 28 := enters_of Tryd.func28 (by simp [Tryd.f28]) rfl
theorem laws_eqMeasure_ok (a1 : GMeasure) (b2 : GMeasure) {r0 : Bool} (h : laws_eqMeasure a1 b2 = some r0) : Ok E 28 [.val (GMeasure.enc a1), .val (GMeasure.enc b2)] [vb r0] [] := by
  refine ok_of_body (fn := Tryd.f28) Tryd.func28 rfl (by simp [Tryd.f28]) fun C hN hP => ?_
  have hPB : ∀ l, pinK [] l = true → pinB C.pin l = true := pinB_of (by rw [hP]; rfl)
  have hN' : C.N = 50 := hN
  clear hN
  unfold laws_eqMeasure at h
  refine SWp.seqR rfl (hPB _ rfl) fun K hK => ?_
  iterate 3 (refine wps_cons rfl fun K hK => ?_; simp [hN']; refine hK _ ?_; clear hK)
  refine wps_nil (hK _ ?_); clear hK
  refine SWp.seq ?_
  refine SWp.seqR rfl (hPB _ rfl) fun K hK => ?_
  iterate 5 (refine wps_cons rfl fun K hK => ?_; simp [hN']; refine hK _ ?_; clear hK)
  refine wps_nil (hK _ ?_); clear hK
  rcases ite_or h with ⟨hb3, h⟩ | ⟨hb4, h⟩
  · refine SWp.condT' (b := a1.Fns != b2.Fns) (by simp) hb3 ?_
    refine SWp.seqR rfl (hPB _ rfl) fun K hK => ?_
    refine wps_cons rfl fun K hK => ?_; simp [hN']; refine hK _ ?_; clear hK
    refine wps_nil (hK _ ?_); clear hK
    cases h
    refine SWp.ret ?_
    simp [thenS, inBlockS, res28]
  · refine SWp.condF' (b := a1.Fns != b2.Fns) (by simp) hb4 ?_
    refine SWp.skip ?_
    show SWp E C _ _ _
    refine SWp.seq ?_
    refine SWp.seqR rfl (hPB _ rfl) fun K hK => ?_
    iterate 5 (refine wps_cons rfl fun K hK => ?_; simp [hN']; refine hK _ ?_; clear hK)
    refine wps_nil (hK _ ?_); clear hK
    rcases ite_or h with ⟨hb5, h⟩ | ⟨hb6, h⟩
    · refine SWp.condT' (b := a1.Nodes != b2.Nodes) (by simp) hb5 ?_
      refine SWp.seqR rfl (hPB _ rfl) fun K hK => ?_
      refine wps_cons rfl fun K hK => ?_; simp [hN']; refine hK _ ?_; clear hK
      refine wps_nil (hK _ ?_); clear hK
      cases h
      refine SWp.ret ?_
      simp [thenS, inBlockS, res28]
    · refine SWp.condF' (b := a1.Nodes != b2.Nodes) (by simp) hb6 ?_
      refine SWp.skip ?_
      show SWp E C _ _ _
      refine SWp.seq ?_
      refine SWp.seqR rfl (hPB _ rfl) fun K hK => ?_
      iterate 5 (refine wps_cons rfl fun K hK => ?_; simp [hN']; refine hK _ ?_; clear hK)
      refine wps_nil (hK _ ?_); clear hK
      rcases ite_or h with ⟨hb7, h⟩ | ⟨hb8, h⟩
      · refine SWp.condT' (b := a1.Steps != b2.Steps) (by simp) hb7 ?_
        refine SWp.seqR rfl (hPB _ rfl) fun K hK => ?_
        refine wps_cons rfl fun K hK => ?_; simp [hN']; refine hK _ ?_; clear hK
        refine wps_nil (hK _ ?_); clear hK
        cases h
        refine SWp.ret ?_
        simp [thenS, inBlockS, res28]
      · refine SWp.condF' (b := a1.Steps != b2.Steps) (by simp) hb8 ?_
        refine SWp.skip ?_
        show SWp E C _ _ _
        refine SWp.seq ?_
        refine SWp.seqR rfl (hPB _ rfl) fun K hK => ?_
        iterate 5 (refine wps_cons rfl fun K hK => ?_; simp [hN']; refine hK _ ?_; clear hK)
        refine wps_nil (hK _ ?_); clear hK
        rcases ite_or h with ⟨hb9, h⟩ | ⟨hb10, h⟩
        · refine SWp.condT' (b := a1.Values != b2.Values) (by simp) hb9 ?_
          refine SWp.seqR rfl (hPB _ rfl) fun K hK => ?_
          refine wps_cons rfl fun K hK => ?_; simp [hN']; refine hK _ ?_; clear hK
          refine wps_nil (hK _ ?_); clear hK
          cases h
          refine SWp.ret ?_
          simp [thenS, inBlockS, res28]
        · refine SWp.condF' (b := a1.Values != b2.Values) (by simp) hb10 ?_
          refine SWp.skip ?_
          show SWp E C _ _ _
          refine SWp.seq ?_
          refine SWp.seqR rfl (hPB _ rfl) fun K hK => ?_
          iterate 5 (refine wps_cons rfl fun K hK => ?_; simp [hN']; refine hK _ ?_; clear hK)
          refine wps_nil (hK _ ?_); clear hK
          rcases ite_or h with ⟨hb11, h⟩ | ⟨hb12, h⟩
          · refine SWp.condT' (b := a1.Blocks != b2.Blocks) (by simp) hb11 ?_
            refine SWp.seqR rfl (hPB _ rfl) fun K hK => ?_
            refine wps_cons rfl fun K hK => ?_; simp [hN']; refine hK _ ?_; clear hK
            refine wps_nil (hK _ ?_); clear hK
            cases h
            refine SWp.ret ?_
            simp [thenS, inBlockS, res28]
          · refine SWp.condF' (b := a1.Blocks != b2.Blocks) (by simp) hb12 ?_
            refine SWp.skip ?_
            show SWp E C _ _ _
            refine SWp.seq ?_
            refine SWp.seqR rfl (hPB _ rfl) fun K hK => ?_
            iterate 5 (refine wps_cons rfl fun K hK => ?_; simp [hN']; refine hK _ ?_; clear hK)
            refine wps_nil (hK _ ?_); clear hK
            rcases ite_or h with ⟨hb13, h⟩ | ⟨hb14, h⟩
            · refine SWp.condT' (b := a1.Lets != b2.Lets) (by simp) hb13 ?_
              refine SWp.seqR rfl (hPB _ rfl) fun K hK => ?_
              refine wps_cons rfl fun K hK => ?_; simp [hN']; refine hK _ ?_; clear hK
              refine wps_nil (hK _ ?_); clear hK
              cases h
              refine SWp.ret ?_
              simp [thenS, inBlockS, res28]
            · refine SWp.condF' (b := a1.Lets != b2.Lets) (by simp) hb14 ?_
              refine SWp.skip ?_
              show SWp E C _ _ _
              refine SWp.seq ?_
              refine SWp.seqR rfl (hPB _ rfl) fun K hK => ?_
              iterate 5 (refine wps_cons rfl fun K hK => ?_; simp [hN']; refine hK _ ?_; clear hK)
              refine wps_nil (hK _ ?_); clear hK
              rcases ite_or h with ⟨hb15, h⟩ | ⟨hb16, h⟩
              · refine SWp.condT' (b := a1.News != b2.News) (by simp) hb15 ?_
                refine SWp.seqR rfl (hPB _ rfl) fun K hK => ?_
                refine wps_cons rfl fun K hK => ?_; simp [hN']; refine hK _ ?_; clear hK
                refine wps_nil (hK _ ?_); clear hK
                cases h
                refine SWp.ret ?_
                simp [thenS, inBlockS, res28]
              · refine SWp.condF' (b := a1.News != b2.News) (by simp) hb16 ?_
                refine SWp.skip ?_
                show SWp E C _ _ _
                refine SWp.seq ?_
                refine SWp.seqR rfl (hPB _ rfl) fun K hK => ?_
                iterate 5 (refine wps_cons rfl fun K hK => ?_; simp [hN']; refine hK _ ?_; clear hK)
                refine wps_nil (hK _ ?_); clear hK
                rcases ite_or h with ⟨hb17, h⟩ | ⟨hb18, h⟩
                · refine SWp.condT' (b := a1.Lends != b2.Lends) (by simp) hb17 ?_
                  refine SWp.seqR rfl (hPB _ rfl) fun K hK => ?_
                  refine wps_cons rfl fun K hK => ?_; simp [hN']; refine hK _ ?_; clear hK
                  refine wps_nil (hK _ ?_); clear hK
                  cases h
                  refine SWp.ret ?_
                  simp [thenS, inBlockS, res28]
                · refine SWp.condF' (b := a1.Lends != b2.Lends) (by simp) hb18 ?_
                  refine SWp.skip ?_
                  show SWp E C _ _ _
                  refine SWp.seq ?_
                  refine SWp.seqR rfl (hPB _ rfl) fun K hK => ?_
                  iterate 5 (refine wps_cons rfl fun K hK => ?_; simp [hN']; refine hK _ ?_; clear hK)
                  refine wps_nil (hK _ ?_); clear hK
                  rcases ite_or h with ⟨hb19, h⟩ | ⟨hb20, h⟩
                  · refine SWp.condT' (b := a1.Deep != b2.Deep) (by simp) hb19 ?_
                    refine SWp.seqR rfl (hPB _ rfl) fun K hK => ?_
                    refine wps_cons rfl fun K hK => ?_; simp [hN']; refine hK _ ?_; clear hK
                    refine wps_nil (hK _ ?_); clear hK
                    cases h
                    refine SWp.ret ?_
                    simp [thenS, inBlockS, res28]
                  · refine SWp.condF' (b := a1.Deep != b2.Deep) (by simp) hb20 ?_
                    refine SWp.skip ?_
                    show SWp E C _ _ _
                    refine SWp.seqR rfl (hPB _ rfl) fun K hK => ?_
                    refine wps_cons rfl fun K hK => ?_; simp [hN']; refine hK _ ?_; clear hK
                    refine wps_nil (hK _ ?_); clear hK
                    cases h
                    refine SWp.ret ?_
                    simp [thenS, inBlockS, res28]
end Go.Proofs.T
set_option linter.unusedVariables false
set_option linter.unusedSimpArgs false
set_option maxHeartbeats 1000000
namespace Go.Proofs.T
open Go.OM
theorem res14 : Tryd.f14.results.toList = [.tmp 4] := rfl
theorem ent14 : Enters E.P 14 := enters_of Tryd.func14 (by simp [Tryd.f14]) rfl
theorem laws_eqIntS_ok (a1 : List Int) (b2 : List Int) {r0 : Bool} (h : laws_eqIntS a1 b2 = some r0) : Ok E 14 [.val (.sl false 1 (List.map vi a1)), .val (.sl false 1 (List.map vi b2))] [vb r0] [] := by
  refine ok_of_body (fn := Tryd.f14) Tryd.func14 rfl (by simp [Tryd.f14]) fun C hN hP => ?_
  have hPB : ∀ l, pinK [] l = true → pinB C.pin l = true := pinB_of (by rw [hP]; rfl)
  have hN' : C.N = 26 := hN
  clear hN
  unfold laws_eqIntS at h
  refine SWp.seqR rfl (hPB _ rfl) fun K hK => ?_
  refine wps_cons rfl fun K hK => ?_; simp [hN']; refine hK _ ?_; clear hK
  refine wps_nil (hK _ ?_); clear hK
  refine SWp.seq ?_
  refine SWp.seqR rfl (hPB _ rfl) fun K hK => ?_
  iterate 5 (refine wps_cons rfl fun K hK => ?_; simp [hN']; refine hK _ ?_; clear hK)
  refine wps_nil (hK _ ?_); clear hK
  rcases ite_or h with ⟨hb3, h⟩ | ⟨hb4, h⟩
  · refine SWp.condT' (b := (a1.length : Int) != (b2.length : Int)) (by simp) hb3 ?_
    refine SWp.seqR rfl (hPB _ rfl) fun K hK => ?_
    refine wps_cons rfl fun K hK => ?_; simp [hN']; refine hK _ ?_; clear hK
    refine wps_nil (hK _ ?_); clear hK
    cases h
    refine SWp.ret ?_
    simp [thenS, inBlockS, res14]
  · refine SWp.condF' (b := (a1.length : Int) != (b2.length : Int)) (by simp) hb4 ?_
    refine SWp.skip ?_
    show SWp E C _ _ _
    obtain ⟨j7, hj5, h⟩ := bind_some h
    refine SWp.seqC [] [] (fun v : Unit => ⟨[], []⟩) (fun v => j7 = Sum.inl v) (fun v hv => ?_) fun K6 hK6 => ?_
    rotate_left
    · refine SWp.seqR rfl (hPB _ rfl) fun K hK => ?_
      refine wps_cons rfl fun K hK => ?_; simp [hN']; refine hK _ ?_; clear hK
      refine wps_nil (hK _ ?_); clear hK
      refine SWp.block ?_
      refine SWp.loopO [] [0, 1, 5] [] (fun v : Int => ⟨[(0, .t (.sl false 1 (List.map vi a1))), (1, .t (.sl false 1 (List.map vi b2))), (5, .t (vi v))], []⟩) (laws_eqIntS_l1 a1 b2) _ 0 hj5 (by simp [hN']) ?_
      intro g s11 h9 ho10
      obtain ⟨i8, hg⟩ : ∃ y, y = g := ⟨_, rfl⟩
      subst hg
      simp only [laws_eqIntS_l1] at h9
      try dsimp only
      refine SWp.seq ?_
      refine SWp.seqR rfl (hPB _ rfl) fun K hK => ?_
      iterate 4 (refine wps_cons rfl fun K hK => ?_; simp [hN']; refine hK _ ?_; clear hK)
      refine wps_nil (hK _ ?_); clear hK
      rcases ite_or h9 with ⟨hb12, h9⟩ | ⟨hb13, h9⟩
      · refine SWp.condT' (b := decide (i8 < (a1.length : Int))) (by simp) hb12 ?_
        refine SWp.skip ?_
        show SWp E C _ _ _
        refine SWp.seq ?_
        refine SWp.block ?_
        refine SWp.seq ?_
        obtain ⟨e15, he15, h9⟩ := bind_some h9
        obtain ⟨he15a, he15b, he15c, he15d⟩ := getI_some he15
        obtain ⟨e16, he16, h9⟩ := bind_some h9
        obtain ⟨he16a, he16b, he16c, he16d⟩ := getI_some he16
        refine SWp.drawT rfl (hPB _ rfl) [(17, .t (.sl false 1 (List.map vi a1))), (18, .t (vi i8)), (19, .rop [vi e15] 0), (20, .t (vi e15)), (21, .t (.sl false 1 (List.map vi b2))), (22, .t (vi i8)), (23, .rop [vi e16] 0), (24, .t (vi e16))] [[], [], [0, 1], [0, 1, 2], [], [], [4, 5], [4, 5, 6], [0, 1, 2, 3, 4, 5, 6, 7]] (by simp) (by simp) (by simp [look]) rfl rfl rfl ?_ fun K hK => ?_
        · refine ⟨?_, ?_, ?_, ?_, ?_, ?_, ?_, ?_, trivial⟩
          all_goals (intro τ hbx hb hd hf K hK; try simp [vsAt] at hd; simp [vsAt] at hf; first | (refine wps_cons rfl fun K' hK' => ?_; simp [hN', hbx, hb, hd, hf, he15a, he15b, he15c, he15d, he16a, he16b, he16c, he16d]; exact hK' _ (wps_nil (hK _ (by simp [vsAt, hbx, he15a, he15b, he15c, he15d, he16a, he16b, he16c, he16d])))))
        refine wps_cons rfl fun K hK => ?_; simp [hN', he15a, he15b, he15c, he15d, he16a, he16b, he16c, he16d]; refine hK _ ?_; clear hK
        refine wps_nil (hK _ ?_); clear hK
        show SWp E C _ _ _
        rcases ite_or h9 with ⟨hb17, h9⟩ | ⟨hb18, h9⟩
        · refine SWp.condT' (b := e15 != e16) (by simp) hb17 ?_
          refine SWp.seqR rfl (hPB _ rfl) fun K hK => ?_
          refine wps_cons rfl fun K hK => ?_; simp [hN']; refine hK _ ?_; clear hK
          refine wps_nil (hK _ ?_); clear hK
          have h19 := congrArg some (ho10 _ (Option.some.inj h9).symm)
          cases h19
          try dsimp only at h
          cases h
          refine SWp.ret ?_
          simp [thenS, inBlockS, res14]
        · refine SWp.condF' (b := e15 != e16) (by simp) hb18 ?_
          refine SWp.skip ?_
          show SWp E C _ _ _
          refine SWp.reg rfl (hPB _ rfl) fun K hK => ?_
          iterate 3 (refine wps_cons rfl fun K hK => ?_; simp [hN']; refine hK _ ?_; clear hK)
          refine wps_nil (hK _ ?_); clear hK
          cases h9
          exact ⟨_, [], rfl, by simp [hN']⟩
      · refine SWp.condF' (b := decide (i8 < (a1.length : Int))) (by simp) hb13 ?_
        refine SWp.exit ?_
        have h20 := congrArg some (ho10 _ (Option.some.inj h9).symm)
        cases h20
        exact hK6 _ _ [] rfl (by simp [hN'])
    subst hv
    obtain ⟨⟩ := v
    try dsimp only at h ⊢
    refine SWp.seqR rfl (hPB _ rfl) fun K hK => ?_
    refine wps_cons rfl fun K hK => ?_; simp [hN']; refine hK _ ?_; clear hK
    refine wps_nil (hK _ ?_); clear hK
    cases h
    refine SWp.ret ?_
    simp [thenS, inBlockS, res14]
end Go.Proofs.T
set_option linter.unusedVariables false
set_option linter.unusedSimpArgs false
set_option maxHeartbeats 1000000
namespace Go.Proofs.T
open Go.OM
theorem res110 : Tryd.f110.results.toList = [.tmp 4] := rfl
theorem ent110 : Enters E.P 110 := enters_of Tryd.func110 (by simp [Tryd.f110]) rfl
theorem laws_eqNode_ok (a1 : GNode) (b2 : GNode) {r0 : Bool} (h : laws_eqNode a1 b2 = some r0) : Ok E 110 [.val (GNode.enc false a1), .val (GNode.enc false b2)] [vb r0] [] := by
  refine ok_of_body (fn := Tryd.f110) Tryd.func110 rfl (by simp [Tryd.f110]) fun C hN hP => ?_
  have hPB : ∀ l, pinK [] l = true → pinB C.pin l = true := pinB_of (by rw [hP]; rfl)
  have hN' : C.N = 26 := hN
  clear hN
  unfold laws_eqNode at h
  refine SWp.seqR rfl (hPB _ rfl) fun K hK => ?_
  iterate 3 (refine wps_cons rfl fun K hK => ?_; simp [hN']; refine hK _ ?_; clear hK)
  refine wps_nil (hK _ ?_); clear hK
  refine SWp.seq ?_
  refine SWp.seqR rfl (hPB _ rfl) fun K hK => ?_
  iterate 5 (refine wps_cons rfl fun K hK => ?_; simp [hN']; refine hK _ ?_; clear hK)
  refine wps_nil (hK _ ?_); clear hK
  rcases ite_or h with ⟨hb3, h⟩ | ⟨hb4, h⟩
  · refine SWp.condT' (b := a1.Kind != b2.Kind) (by simp) hb3 ?_
    refine SWp.seqR rfl (hPB _ rfl) fun K hK => ?_
    refine wps_cons rfl fun K hK => ?_; simp [hN']; refine hK _ ?_; clear hK
    refine wps_nil (hK _ ?_); clear hK
    cases h
    refine SWp.ret ?_
    simp [thenS, inBlockS, res110]
  · refine SWp.condF' (b := a1.Kind != b2.Kind) (by simp) hb4 ?_
    refine SWp.skip ?_
    show SWp E C _ _ _
    refine SWp.seq ?_
    refine SWp.seqR rfl (hPB _ rfl) fun K hK => ?_
    iterate 5 (refine wps_cons rfl fun K hK => ?_; simp [hN']; refine hK _ ?_; clear hK)
    refine wps_nil (hK _ ?_); clear hK
    rcases ite_or h with ⟨hb5, h⟩ | ⟨hb6, h⟩
    · refine SWp.condT' (b := a1.Num != b2.Num) (by simp) hb5 ?_
      refine SWp.seqR rfl (hPB _ rfl) fun K hK => ?_
      refine wps_cons rfl fun K hK => ?_; simp [hN']; refine hK _ ?_; clear hK
      refine wps_nil (hK _ ?_); clear hK
      cases h
      refine SWp.ret ?_
      simp [thenS, inBlockS, res110]
    · refine SWp.condF' (b := a1.Num != b2.Num) (by simp) hb6 ?_
      refine SWp.skip ?_
      show SWp E C _ _ _
      refine SWp.seq ?_
      refine SWp.seqR rfl (hPB _ rfl) fun K hK => ?_
      iterate 5 (refine wps_cons rfl fun K hK => ?_; simp [hN']; refine hK _ ?_; clear hK)
      refine wps_nil (hK _ ?_); clear hK
      rcases ite_or h with ⟨hb7, h⟩ | ⟨hb8, h⟩
      · refine SWp.condT' (b := !(sEq a1.Name b2.Name)) (by simp) hb7 ?_
        refine SWp.seqR rfl (hPB _ rfl) fun K hK => ?_
        refine wps_cons rfl fun K hK => ?_; simp [hN']; refine hK _ ?_; clear hK
        refine wps_nil (hK _ ?_); clear hK
        cases h
        refine SWp.ret ?_
        simp [thenS, inBlockS, res110]
      · refine SWp.condF' (b := !(sEq a1.Name b2.Name)) (by simp) hb8 ?_
        refine SWp.skip ?_
        show SWp E C _ _ _
        refine SWp.seq ?_
        refine SWp.seqR rfl (hPB _ rfl) fun K hK => ?_
        iterate 4 (refine wps_cons rfl fun K hK => ?_; simp [hN']; refine hK _ ?_; clear hK)
        obtain ⟨r9, hc10, h⟩ := bind_some h
        refine wps_call [(.take, .tmp 21), (.take, .tmp 23)] rfl rfl ent14 (laws_eqIntS_ok _ _ hc10) fun K hK => ?_; simp [hN']; refine hK _ ?_; clear hK
        refine wps_cons rfl fun K hK => ?_; simp [hN']; refine hK _ ?_; clear hK
        refine wps_nil (hK _ ?_); clear hK
        rcases ite_or h with ⟨hb11, h⟩ | ⟨hb12, h⟩
        · refine SWp.condT' (b := !r9) (by simp) hb11 ?_
          refine SWp.seqR rfl (hPB _ rfl) fun K hK => ?_
          refine wps_cons rfl fun K hK => ?_; simp [hN']; refine hK _ ?_; clear hK
          refine wps_nil (hK _ ?_); clear hK
          cases h
          refine SWp.ret ?_
          simp [thenS, inBlockS, res110]
        · refine SWp.condF' (b := !r9) (by simp) hb12 ?_
          refine SWp.skip ?_
          show SWp E C _ _ _
          refine SWp.seqR rfl (hPB _ rfl) fun K hK => ?_
          refine wps_cons rfl fun K hK => ?_; simp [hN']; refine hK _ ?_; clear hK
          refine wps_nil (hK _ ?_); clear hK
          cases h
          refine SWp.ret ?_
          simp [thenS, inBlockS, res110]
end Go.Proofs.T
set_option linter.unusedVariables false
set_option linter.unusedSimpArgs false
set_option maxHeartbeats 1000000
namespace Go.Proofs.T
open Go.OM
theorem res71 : Tryd.f71.results.toList = [.tmp 4] := rfl
theorem ent71 : Enters E.P 71 := enters_of Tryd.func71 (by simp [Tryd.f71]) rfl
theorem laws_eqNodeS_ok (a1 : List GNode) (b2 : List GNode) {r0 : Bool} (h : laws_eqNodeS a1 b2 = some r0) : Ok E 71 [.val (.sl false 4 (List.map (GNode.enc false) a1)), .val (.sl false 4 (List.map (GNode.enc false) b2))] [vb r0] [] := by
  refine ok_of_body (fn := Tryd.f71) Tryd.func71 rfl (by simp [Tryd.f71]) fun C hN hP => ?_
  have hPB : ∀ l, pinK [] l = true → pinB C.pin l = true := pinB_of (by rw [hP]; rfl)
  have hN' : C.N = 27 := hN
  clear hN
  unfold laws_eqNodeS at h
  refine SWp.seqR rfl (hPB _ rfl) fun K hK => ?_
  refine wps_cons rfl fun K hK => ?_; simp [hN']; refine hK _ ?_; clear hK
  refine wps_nil (hK _ ?_); clear hK
  refine SWp.seq ?_
  refine SWp.seqR rfl (hPB _ rfl) fun K hK => ?_
  iterate 5 (refine wps_cons rfl fun K hK => ?_; simp [hN']; refine hK _ ?_; clear hK)
  refine wps_nil (hK _ ?_); clear hK
  rcases ite_or h with ⟨hb3, h⟩ | ⟨hb4, h⟩
  · refine SWp.condT' (b := (a1.length : Int) != (b2.length : Int)) (by simp) hb3 ?_
    refine SWp.seqR rfl (hPB _ rfl) fun K hK => ?_
    refine wps_cons rfl fun K hK => ?_; simp [hN']; refine hK _ ?_; clear hK
    refine wps_nil (hK _ ?_); clear hK
    cases h
    refine SWp.ret ?_
    simp [thenS, inBlockS, res71]
  · refine SWp.condF' (b := (a1.length : Int) != (b2.length : Int)) (by simp) hb4 ?_
    refine SWp.skip ?_
    show SWp E C _ _ _
    obtain ⟨j7, hj5, h⟩ := bind_some h
    refine SWp.seqC [] [] (fun v : Unit => ⟨[], []⟩) (fun v => j7 = Sum.inl v) (fun v hv => ?_) fun K6 hK6 => ?_
    rotate_left
    · refine SWp.seqR rfl (hPB _ rfl) fun K hK => ?_
      refine wps_cons rfl fun K hK => ?_; simp [hN']; refine hK _ ?_; clear hK
      refine wps_nil (hK _ ?_); clear hK
      refine SWp.block ?_
      refine SWp.loopO [] [0, 1, 5] [] (fun v : Int => ⟨[(0, .t (.sl false 4 (List.map (GNode.enc false) a1))), (1, .t (.sl false 4 (List.map (GNode.enc false) b2))), (5, .t (vi v))], []⟩) (laws_eqNodeS_l1 a1 b2) _ 0 hj5 (by simp [hN']) ?_
      intro g s11 h9 ho10
      obtain ⟨i8, hg⟩ : ∃ y, y = g := ⟨_, rfl⟩
      subst hg
      simp only [laws_eqNodeS_l1] at h9
      try dsimp only
      refine SWp.seq ?_
      refine SWp.seqR rfl (hPB _ rfl) fun K hK => ?_
      iterate 4 (refine wps_cons rfl fun K hK => ?_; simp [hN']; refine hK _ ?_; clear hK)
      refine wps_nil (hK _ ?_); clear hK
      rcases ite_or h9 with ⟨hb12, h9⟩ | ⟨hb13, h9⟩
      · refine SWp.condT' (b := decide (i8 < (a1.length : Int))) (by simp) hb12 ?_
        refine SWp.skip ?_
        show SWp E C _ _ _
        refine SWp.seq ?_
        refine SWp.block ?_
        refine SWp.seq ?_
        obtain ⟨e15, he15, h9⟩ := bind_some h9
        obtain ⟨he15a, he15b, he15c, he15d⟩ := getI_some he15
        obtain ⟨e16, he16, h9⟩ := bind_some h9
        obtain ⟨he16a, he16b, he16c, he16d⟩ := getI_some he16
        refine SWp.drawT rfl (hPB _ rfl) [(17, .t (.sl false 4 (List.map (GNode.enc false) a1))), (18, .t (vi i8)), (19, .rop [vi e15.Kind, vi e15.Num, vs e15.Name, .sl false 1 (List.map vi e15.Kids)] 0), (20, .t (GNode.enc false e15)), (21, .t (.sl false 4 (List.map (GNode.enc false) b2))), (22, .t (vi i8)), (23, .rop [vi e16.Kind, vi e16.Num, vs e16.Name, .sl false 1 (List.map vi e16.Kids)] 0), (24, .t (GNode.enc false e16))] [[], [], [0, 1], [0, 1, 2], [], [], [4, 5], [4, 5, 6], [0, 1, 2, 3, 4, 5, 6, 7], [0, 1, 2, 3, 4, 5, 6, 7, 8]] (by simp) (by simp) (by simp [look]) rfl rfl rfl ?_ fun K hK => ?_
        · refine ⟨?_, ?_, ?_, ?_, ?_, ?_, ?_, ?_, trivial⟩
          all_goals (intro τ hbx hb hd hf K hK; try simp [vsAt] at hd; simp [vsAt] at hf; first | (refine wps_cons rfl fun K' hK' => ?_; simp [hN', hbx, hb, hd, hf, he15a, he15b, he15c, he15d, he16a, he16b, he16c, he16d]; exact hK' _ (wps_nil (hK _ (by simp [vsAt, hbx, he15a, he15b, he15c, he15d, he16a, he16b, he16c, he16d])))))
        obtain ⟨r17, hc18, h9⟩ := bind_some h9
        refine wps_call [(.take, .tmp 20), (.take, .tmp 24)] rfl rfl ent110 (laws_eqNode_ok _ _ hc18) fun K hK => ?_; simp [hN', he15a, he15b, he15c, he15d, he16a, he16b, he16c, he16d]; refine hK _ ?_; clear hK
        refine wps_cons rfl fun K hK => ?_; simp [hN', he15a, he15b, he15c, he15d, he16a, he16b, he16c, he16d]; refine hK _ ?_; clear hK
        refine wps_nil (hK _ ?_); clear hK
        show SWp E C _ _ _
        rcases ite_or h9 with ⟨hb19, h9⟩ | ⟨hb20, h9⟩
        · refine SWp.condT' (b := !r17) (by simp) hb19 ?_
          refine SWp.seqR rfl (hPB _ rfl) fun K hK => ?_
          refine wps_cons rfl fun K hK => ?_; simp [hN']; refine hK _ ?_; clear hK
          refine wps_nil (hK _ ?_); clear hK
          have h21 := congrArg some (ho10 _ (Option.some.inj h9).symm)
          cases h21
          try dsimp only at h
          cases h
          refine SWp.ret ?_
          simp [thenS, inBlockS, res71]
        · refine SWp.condF' (b := !r17) (by simp) hb20 ?_
          refine SWp.skip ?_
          show SWp E C _ _ _
          refine SWp.reg rfl (hPB _ rfl) fun K hK => ?_
          iterate 3 (refine wps_cons rfl fun K hK => ?_; simp [hN']; refine hK _ ?_; clear hK)
          refine wps_nil (hK _ ?_); clear hK
          cases h9
          exact ⟨_, [], rfl, by simp [hN']⟩
      · refine SWp.condF' (b := decide (i8 < (a1.length : Int))) (by simp) hb13 ?_
        refine SWp.exit ?_
        have h22 := congrArg some (ho10 _ (Option.some.inj h9).symm)
        cases h22
        exact hK6 _ _ [] rfl (by simp [hN'])
    subst hv
    obtain ⟨⟩ := v
    try dsimp only at h ⊢
    refine SWp.seqR rfl (hPB _ rfl) fun K hK => ?_
    refine wps_cons rfl fun K hK => ?_; simp [hN']; refine hK _ ?_; clear hK
    refine wps_nil (hK _ ?_); clear hK
    cases h
    refine SWp.ret ?_
    simp [thenS, inBlockS, res71]
end Go.Proofs.T
set_option linter.unusedVariables false
set_option linter.unusedSimpArgs false
set_option maxHeartbeats 1000000
namespace Go.Proofs.T
open Go.OM
theorem res154 : Tryd.f154.results.toList = [.tmp 4] := rfl
theorem ent154 : Enters E.P 154 := enters_of Tryd.func154 (by simp [Tryd.f154]) rfl
theorem laws_eqParam_ok (a1 : GParam) (b2 : GParam) {r0 : Bool} (h : laws_eqParam a1 b2 = some r0) : Ok E 154 [.val (GParam.enc a1), .val (GParam.enc b2)] [vb r0] [] := by
  refine ok_of_body (fn := Tryd.f154) Tryd.func154 rfl (by simp [Tryd.f154]) fun C hN hP => ?_
  have hPB : ∀ l, pinK [] l = true → pinB C.pin l = true := pinB_of (by rw [hP]; rfl)
  have hN' : C.N = 15 := hN
  clear hN
  unfold laws_eqParam at h
  refine SWp.seqR rfl (hPB _ rfl) fun K hK => ?_
  iterate 3 (refine wps_cons rfl fun K hK => ?_; simp [hN']; refine hK _ ?_; clear hK)
  refine wps_nil (hK _ ?_); clear hK
  refine SWp.seq ?_
  refine SWp.seqR rfl (hPB _ rfl) fun K hK => ?_
  iterate 5 (refine wps_cons rfl fun K hK => ?_; simp [hN']; refine hK _ ?_; clear hK)
  refine wps_nil (hK _ ?_); clear hK
  rcases ite_or h with ⟨hb3, h⟩ | ⟨hb4, h⟩
  · refine SWp.condT' (b := !(sEq a1.Name b2.Name)) (by simp) hb3 ?_
    refine SWp.seqR rfl (hPB _ rfl) fun K hK => ?_
    refine wps_cons rfl fun K hK => ?_; simp [hN']; refine hK _ ?_; clear hK
    refine wps_nil (hK _ ?_); clear hK
    cases h
    refine SWp.ret ?_
    simp [thenS, inBlockS, res154]
  · refine SWp.condF' (b := !(sEq a1.Name b2.Name)) (by simp) hb4 ?_
    refine SWp.skip ?_
    show SWp E C _ _ _
    refine SWp.seq ?_
    refine SWp.seqR rfl (hPB _ rfl) fun K hK => ?_
    iterate 5 (refine wps_cons rfl fun K hK => ?_; simp [hN']; refine hK _ ?_; clear hK)
    refine wps_nil (hK _ ?_); clear hK
    rcases ite_or h with ⟨hb5, h⟩ | ⟨hb6, h⟩
    · refine SWp.condT' (b := a1.Typ != b2.Typ) (by simp) hb5 ?_
      refine SWp.seqR rfl (hPB _ rfl) fun K hK => ?_
      refine wps_cons rfl fun K hK => ?_; simp [hN']; refine hK _ ?_; clear hK
      refine wps_nil (hK _ ?_); clear hK
      cases h
      refine SWp.ret ?_
      simp [thenS, inBlockS, res154]
    · refine SWp.condF' (b := a1.Typ != b2.Typ) (by simp) hb6 ?_
      refine SWp.skip ?_
      show SWp E C _ _ _
      refine SWp.seqR rfl (hPB _ rfl) fun K hK => ?_
      refine wps_cons rfl fun K hK => ?_; simp [hN']; refine hK _ ?_; clear hK
      refine wps_nil (hK _ ?_); clear hK
      cases h
      refine SWp.ret ?_
      simp [thenS, inBlockS, res154]
end Go.Proofs.T
set_option linter.unusedVariables false
set_option linter.unusedSimpArgs false
set_option maxHeartbeats 1000000
namespace Go.Proofs.T
open Go.OM
theorem res133 : Tryd.f133.results.toList = [.tmp 4] := rfl
theorem ent133 : Enters E.P 133 := enters_of Tryd.func133 (by simp [Tryd.f133]) rfl
theorem laws_eqParamS_ok (a1 : List GParam) (b2 : List GParam) {r0 : Bool} (h : laws_eqParamS a1 b2 = some r0) : Ok E 133 [.val (.sl false 2 (List.map GParam.enc a1)), .val (.sl false 2 (List.map GParam.enc b2))] [vb r0] [] := by
  refine ok_of_body (fn := Tryd.f133) Tryd.func133 rfl (by simp [Tryd.f133]) fun C hN hP => ?_
  have hPB : ∀ l, pinK [] l = true → pinB C.pin l = true := pinB_of (by rw [hP]; rfl)
  have hN' : C.N = 27 := hN
  clear hN
  unfold laws_eqParamS at h
  refine SWp.seqR rfl (hPB _ rfl) fun K hK => ?_
  refine wps_cons rfl fun K hK => ?_; simp [hN']; refine hK _ ?_; clear hK
  refine wps_nil (hK _ ?_); clear hK
  refine SWp.seq ?_
  refine SWp.seqR rfl (hPB _ rfl) fun K hK => ?_
  iterate 5 (refine wps_cons rfl fun K hK => ?_; simp [hN']; refine hK _ ?_; clear hK)
  refine wps_nil (hK _ ?_); clear hK
  rcases ite_or h with ⟨hb3, h⟩ | ⟨hb4, h⟩
  · refine SWp.condT' (b := (a1.length : Int) != (b2.length : Int)) (by simp) hb3 ?_
    refine SWp.seqR rfl (hPB _ rfl) fun K hK => ?_
    refine wps_cons rfl fun K hK => ?_; simp [hN']; refine hK _ ?_; clear hK
    refine wps_nil (hK _ ?_); clear hK
    cases h
    refine SWp.ret ?_
    simp [thenS, inBlockS, res133]
  · refine SWp.condF' (b := (a1.length : Int) != (b2.length : Int)) (by simp) hb4 ?_
    refine SWp.skip ?_
    show SWp E C _ _ _
    obtain ⟨j7, hj5, h⟩ := bind_some h
    refine SWp.seqC [] [] (fun v : Unit => ⟨[], []⟩) (fun v => j7 = Sum.inl v) (fun v hv => ?_) fun K6 hK6 => ?_
    rotate_left
    · refine SWp.seqR rfl (hPB _ rfl) fun K hK => ?_
      refine wps_cons rfl fun K hK => ?_; simp [hN']; refine hK _ ?_; clear hK
      refine wps_nil (hK _ ?_); clear hK
      refine SWp.block ?_
      refine SWp.loopO [] [0, 1, 5] [] (fun v : Int => ⟨[(0, .t (.sl false 2 (List.map GParam.enc a1))), (1, .t (.sl false 2 (List.map GParam.enc b2))), (5, .t (vi v))], []⟩) (laws_eqParamS_l1 a1 b2) _ 0 hj5 (by simp [hN']) ?_
      intro g s11 h9 ho10
      obtain ⟨i8, hg⟩ : ∃ y, y = g := ⟨_, rfl⟩
      subst hg
      simp only [laws_eqParamS_l1] at h9
      try dsimp only
      refine SWp.seq ?_
      refine SWp.seqR rfl (hPB _ rfl) fun K hK => ?_
      iterate 4 (refine wps_cons rfl fun K hK => ?_; simp [hN']; refine hK _ ?_; clear hK)
      refine wps_nil (hK _ ?_); clear hK
      rcases ite_or h9 with ⟨hb12, h9⟩ | ⟨hb13, h9⟩
      · refine SWp.condT' (b := decide (i8 < (a1.length : Int))) (by simp) hb12 ?_
        refine SWp.skip ?_
        show SWp E C _ _ _
        refine SWp.seq ?_
        refine SWp.block ?_
        refine SWp.seq ?_
        obtain ⟨e15, he15, h9⟩ := bind_some h9
        obtain ⟨he15a, he15b, he15c, he15d⟩ := getI_some he15
        obtain ⟨e16, he16, h9⟩ := bind_some h9
        obtain ⟨he16a, he16b, he16c, he16d⟩ := getI_some he16
        refine SWp.drawT rfl (hPB _ rfl) [(17, .t (.sl false 2 (List.map GParam.enc a1))), (18, .t (vi i8)), (19, .rop [vs e15.Name, vi e15.Typ] 0), (20, .t (GParam.enc e15)), (21, .t (.sl false 2 (List.map GParam.enc b2))), (22, .t (vi i8)), (23, .rop [vs e16.Name, vi e16.Typ] 0), (24, .t (GParam.enc e16))] [[], [], [0, 1], [0, 1, 2], [], [], [4, 5], [4, 5, 6], [0, 1, 2, 3, 4, 5, 6, 7], [0, 1, 2, 3, 4, 5, 6, 7, 8]] (by simp) (by simp) (by simp [look]) rfl rfl rfl ?_ fun K hK => ?_
        · refine ⟨?_, ?_, ?_, ?_, ?_, ?_, ?_, ?_, trivial⟩
          all_goals (intro τ hbx hb hd hf K hK; try simp [vsAt] at hd; simp [vsAt] at hf; first | (refine wps_cons rfl fun K' hK' => ?_; simp [hN', hbx, hb, hd, hf, he15a, he15b, he15c, he15d, he16a, he16b, he16c, he16d]; exact hK' _ (wps_nil (hK _ (by simp [vsAt, hbx, he15a, he15b, he15c, he15d, he16a, he16b, he16c, he16d])))))
        obtain ⟨r17, hc18, h9⟩ := bind_some h9
        refine wps_call [(.take, .tmp 20), (.take, .tmp 24)] rfl rfl ent154 (laws_eqParam_ok _ _ hc18) fun K hK => ?_; simp [hN', he15a, he15b, he15c, he15d, he16a, he16b, he16c, he16d]; refine hK _ ?_; clear hK
        refine wps_cons rfl fun K hK => ?_; simp [hN', he15a, he15b, he15c, he15d, he16a, he16b, he16c, he16d]; refine hK _ ?_; clear hK
        refine wps_nil (hK _ ?_); clear hK
        show SWp E C _ _ _
        rcases ite_or h9 with ⟨hb19, h9⟩ | ⟨hb20, h9⟩
        · refine SWp.condT' (b := !r17) (by simp) hb19 ?_
          refine SWp.seqR rfl (hPB _ rfl) fun K hK => ?_
          refine wps_cons rfl fun K hK => ?_; simp [hN']; refine hK _ ?_; clear hK
          refine wps_nil (hK _ ?_); clear hK
          have h21 := congrArg some (ho10 _ (Option.some.inj h9).symm)
          cases h21
          try dsimp only at h
          cases h
          refine SWp.ret ?_
          simp [thenS, inBlockS, res133]
        · refine SWp.condF' (b := !r17) (by simp) hb20 ?_
          refine SWp.skip ?_
          show SWp E C _ _ _
          refine SWp.reg rfl (hPB _ rfl) fun K hK => ?_
          iterate 3 (refine wps_cons rfl fun K hK => ?_; simp [hN']; refine hK _ ?_; clear hK)
          refine wps_nil (hK _ ?_); clear hK
          cases h9
          exact ⟨_, [], rfl, by simp [hN']⟩
      · refine SWp.condF' (b := decide (i8 < (a1.length : Int))) (by simp) hb13 ?_
        refine SWp.exit ?_
        have h22 := congrArg some (ho10 _ (Option.some.inj h9).symm)
        cases h22
        exact hK6 _ _ [] rfl (by simp [hN'])
    subst hv
    obtain ⟨⟩ := v
    try dsimp only at h ⊢
    refine SWp.seqR rfl (hPB _ rfl) fun K hK => ?_
    refine wps_cons rfl fun K hK => ?_; simp [hN']; refine hK _ ?_; clear hK
    refine wps_nil (hK _ ?_); clear hK
    cases h
    refine SWp.ret ?_
    simp [thenS, inBlockS, res133]
end Go.Proofs.T
set_option linter.unusedVariables false
set_option linter.unusedSimpArgs false
set_option maxHeartbeats 1000000
namespace Go.Proofs.T
open Go.OM
theorem res111 : Tryd.f111.results.toList = [.tmp 4] := rfl
theorem ent111 : Enters E.P 111 := enters_of Tryd.func111 (by simp [Tryd.f111]) rfl
theorem laws_eqFn_ok (a1 : GFn) (b2 : GFn) {r0 : Bool} (h : laws_eqFn a1 b2 = some r0) : Ok E 111 [.val (GFn.enc false a1), .val (GFn.enc false b2)] [vb r0] [] := by
  refine ok_of_body (fn := Tryd.f111) Tryd.func111 rfl (by simp [Tryd.f111]) fun C hN hP => ?_
  have hPB : ∀ l, pinK [] l = true → pinB C.pin l = true := pinB_of (by rw [hP]; rfl)
  have hN' : C.N = 31 := hN
  clear hN
  unfold laws_eqFn at h
  refine SWp.seqR rfl (hPB _ rfl) fun K hK => ?_
  iterate 3 (refine wps_cons rfl fun K hK => ?_; simp [hN']; refine hK _ ?_; clear hK)
  refine wps_nil (hK _ ?_); clear hK
  refine SWp.seq ?_
  refine SWp.seqR rfl (hPB _ rfl) fun K hK => ?_
  iterate 5 (refine wps_cons rfl fun K hK => ?_; simp [hN']; refine hK _ ?_; clear hK)
  refine wps_nil (hK _ ?_); clear hK
  rcases ite_or h with ⟨hb3, h⟩ | ⟨hb4, h⟩
  · refine SWp.condT' (b := !(sEq a1.Name b2.Name)) (by simp) hb3 ?_
    refine SWp.seqR rfl (hPB _ rfl) fun K hK => ?_
    refine wps_cons rfl fun K hK => ?_; simp [hN']; refine hK _ ?_; clear hK
    refine wps_nil (hK _ ?_); clear hK
    cases h
    refine SWp.ret ?_
    simp [thenS, inBlockS, res111]
  · refine SWp.condF' (b := !(sEq a1.Name b2.Name)) (by simp) hb4 ?_
    refine SWp.skip ?_
    show SWp E C _ _ _
    refine SWp.seq ?_
    refine SWp.seqR rfl (hPB _ rfl) fun K hK => ?_
    iterate 4 (refine wps_cons rfl fun K hK => ?_; simp [hN']; refine hK _ ?_; clear hK)
    obtain ⟨r5, hc6, h⟩ := bind_some h
    refine wps_call [(.take, .tmp 11), (.take, .tmp 13)] rfl rfl ent133 (laws_eqParamS_ok _ _ hc6) fun K hK => ?_; simp [hN']; refine hK _ ?_; clear hK
    refine wps_cons rfl fun K hK => ?_; simp [hN']; refine hK _ ?_; clear hK
    refine wps_nil (hK _ ?_); clear hK
    rcases ite_or h with ⟨hb7, h⟩ | ⟨hb8, h⟩
    · refine SWp.condT' (b := !r5) (by simp) hb7 ?_
      refine SWp.seqR rfl (hPB _ rfl) fun K hK => ?_
      refine wps_cons rfl fun K hK => ?_; simp [hN']; refine hK _ ?_; clear hK
      refine wps_nil (hK _ ?_); clear hK
      cases h
      refine SWp.ret ?_
      simp [thenS, inBlockS, res111]
    · refine SWp.condF' (b := !r5) (by simp) hb8 ?_
      refine SWp.skip ?_
      show SWp E C _ _ _
      refine SWp.seq ?_
      refine SWp.seqR rfl (hPB _ rfl) fun K hK => ?_
      iterate 5 (refine wps_cons rfl fun K hK => ?_; simp [hN']; refine hK _ ?_; clear hK)
      refine wps_nil (hK _ ?_); clear hK
      rcases ite_or h with ⟨hb9, h⟩ | ⟨hb10, h⟩
      · refine SWp.condT' (b := a1.Res != b2.Res) (by simp) hb9 ?_
        refine SWp.seqR rfl (hPB _ rfl) fun K hK => ?_
        refine wps_cons rfl fun K hK => ?_; simp [hN']; refine hK _ ?_; clear hK
        refine wps_nil (hK _ ?_); clear hK
        cases h
        refine SWp.ret ?_
        simp [thenS, inBlockS, res111]
      · refine SWp.condF' (b := a1.Res != b2.Res) (by simp) hb10 ?_
        refine SWp.skip ?_
        show SWp E C _ _ _
        refine SWp.seq ?_
        refine SWp.seqR rfl (hPB _ rfl) fun K hK => ?_
        iterate 5 (refine wps_cons rfl fun K hK => ?_; simp [hN']; refine hK _ ?_; clear hK)
        refine wps_nil (hK _ ?_); clear hK
        rcases ite_or h with ⟨hb11, h⟩ | ⟨hb12, h⟩
        · refine SWp.condT' (b := a1.Body != b2.Body) (by simp) hb11 ?_
          refine SWp.seqR rfl (hPB _ rfl) fun K hK => ?_
          refine wps_cons rfl fun K hK => ?_; simp [hN']; refine hK _ ?_; clear hK
          refine wps_nil (hK _ ?_); clear hK
          cases h
          refine SWp.ret ?_
          simp [thenS, inBlockS, res111]
        · refine SWp.condF' (b := a1.Body != b2.Body) (by simp) hb12 ?_
          refine SWp.skip ?_
          show SWp E C _ _ _
          refine SWp.seq ?_
          refine SWp.seqR rfl (hPB _ rfl) fun K hK => ?_
          iterate 5 (refine wps_cons rfl fun K hK => ?_; simp [hN']; refine hK _ ?_; clear hK)
          refine wps_nil (hK _ ?_); clear hK
          rcases ite_or h with ⟨hb13, h⟩ | ⟨hb14, h⟩
          · refine SWp.condT' (b := a1.Ret != b2.Ret) (by simp) hb13 ?_
            refine SWp.seqR rfl (hPB _ rfl) fun K hK => ?_
            refine wps_cons rfl fun K hK => ?_; simp [hN']; refine hK _ ?_; clear hK
            refine wps_nil (hK _ ?_); clear hK
            cases h
            refine SWp.ret ?_
            simp [thenS, inBlockS, res111]
          · refine SWp.condF' (b := a1.Ret != b2.Ret) (by simp) hb14 ?_
            refine SWp.skip ?_
            show SWp E C _ _ _
            refine SWp.seqR rfl (hPB _ rfl) fun K hK => ?_
            refine wps_cons rfl fun K hK => ?_; simp [hN']; refine hK _ ?_; clear hK
            refine wps_nil (hK _ ?_); clear hK
            cases h
            refine SWp.ret ?_
            simp [thenS, inBlockS, res111]
end Go.Proofs.T
