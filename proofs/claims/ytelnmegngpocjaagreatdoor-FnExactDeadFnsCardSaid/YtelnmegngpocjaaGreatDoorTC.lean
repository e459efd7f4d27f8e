import Derived.Test.YtelnmegngpocjaaGreatDoorTB
import Derived.KernelRfl
set_option linter.unusedVariables false
set_option linter.unusedSimpArgs false
set_option linter.unusedVariables false
set_option linter.unusedSimpArgs false
set_option maxHeartbeats 1000000
namespace Go.Proofs.T
open Go.OM
theorem res23 : Tryz.f23.results.toList = [.tmp 4] := rfl
theorem ent23 : Enters E.P 23 := enters_of Tryz.func23 (by simp [Tryz.f23]) rfl
theorem impl_ReachedFns_ok (p1 : GProgram) (fn2 : Int) {r0 : List Int} (h : impl_ReachedFns p1 fn2 = some r0) : Ok E 23 [.val (GProgram.enc false p1), .val (vi fn2)] [.sl true 1 (List.map vi r0)] [] := by
  refine ok_of_body (fn := Tryz.f23) Tryz.func23 rfl (by simp [Tryz.f23]) fun C hN hP => ?_
  have hPB : ∀ l, pinK [] l = true → pinB C.pin l = true := pinB_of (by rw [hP]; rfl)
  have hN' : C.N = 47 := hN
  clear hN
  unfold impl_ReachedFns at h
  refine SWp.seqR rfl (hPB _ rfl) fun K hK => ?_
  iterate 2 (refine wps_cons rfl fun K hK => ?_; simp [hN']; refine hK _ ?_; clear hK)
  refine wps_nil (hK _ ?_); clear hK
  refine SWp.seq ?_
  refine SWp.seqR rfl (hPB _ rfl) fun K hK => ?_
  iterate 5 (refine wps_cons rfl fun K hK => ?_; simp [hN']; refine hK _ ?_; clear hK)
  obtain ⟨r3, hc4, h⟩ := bind_some h
  refine wps_call [(.take, .tmp 9), (.take, .const (.int .i64 0)), (.take, .tmp 13)] rfl rfl ent52 (impl_in_ok _ _ _ hc4) fun K hK => ?_; simp [hN']; refine hK _ ?_; clear hK
  refine wps_cons rfl fun K hK => ?_; simp [hN']; refine hK _ ?_; clear hK
  refine wps_nil (hK _ ?_); clear hK
  rcases ite_or h with ⟨hb5, h⟩ | ⟨hb6, h⟩
  · refine SWp.condT' (b := !r3) (by simp) hb5 ?_
    refine SWp.seqR rfl (hPB _ rfl) fun K hK => ?_
    refine wps_cons rfl fun K hK => ?_; simp [hN']; refine hK _ ?_; clear hK
    refine wps_nil (hK _ ?_); clear hK
    cases h
    refine SWp.ret ?_
    simp [thenS, inBlockS, res23]
  · refine SWp.condF' (b := !r3) (by simp) hb6 ?_
    refine SWp.skip ?_
    show SWp E C _ _ _
    refine SWp.seqR rfl (hPB _ rfl) fun K hK => ?_
    iterate 3 (refine wps_cons rfl fun K hK => ?_; simp [hN']; refine hK _ ?_; clear hK)
    refine wps_nil (hK _ ?_); clear hK
    obtain ⟨out40, hj7, h⟩ := bind_some h
    refine SWp.seqC [5] [] (fun _ : Unit => ⟨[(5, .t (.sl true 1 (List.map vi out40)))], []⟩) (fun _ => True) (fun _ _ => ?_) fun K8 hK8 => ?_
    rotate_left
    · refine SWp.seqR rfl (hPB _ rfl) fun K hK => ?_
      refine wps_cons rfl fun K hK => ?_; simp [hN']; refine hK _ ?_; clear hK
      refine wps_nil (hK _ ?_); clear hK
      refine SWp.block ?_
      refine SWp.loopO [] [2, 5, 6] [2] (fun v : (List Int) × Int => ⟨[(2, .ref (.box 2) 0 []), (5, .t (.sl true 1 (List.map vi v.1))), (6, .t (vi v.2))], [(2, [.sl false 4 (List.map (GNode.enc false) p1.Nodes), .sl false 5 (List.map (GFn.enc false) p1.Fns)])]⟩) (impl_ReachedFns_l1 p1) _ ([fn2], 0) hj7 (by simp [hN']) ?_
      intro g s14 h12 ho13
      obtain ⟨out10, i11⟩ := g
      simp only [impl_ReachedFns_l1] at h12
      try dsimp only
      refine SWp.seq ?_
      refine SWp.seqR rfl (hPB _ rfl) fun K hK => ?_
      iterate 4 (refine wps_cons rfl fun K hK => ?_; simp [hN']; refine hK _ ?_; clear hK)
      refine wps_nil (hK _ ?_); clear hK
      rcases ite_or h12 with ⟨hb15, h12⟩ | ⟨hb16, h12⟩
      · refine SWp.condT' (b := decide (i11 < (out10.length : Int))) (by simp) hb15 ?_
        refine SWp.skip ?_
        show SWp E C _ _ _
        obtain ⟨out38, hj17, h12⟩ := bind_some h12
        refine SWp.seqC [2, 5, 6] [2] (fun _ : Unit => ⟨[(2, .ref (.box 2) 0 []), (5, .t (.sl true 1 (List.map vi out38))), (6, .t (vi i11))], [(2, [.sl false 4 (List.map (GNode.enc false) p1.Nodes), .sl false 5 (List.map (GFn.enc false) p1.Fns)])]⟩) (fun _ => True) (fun _ _ => ?_) fun K18 hK18 => ?_
        rotate_left
        · refine SWp.block ?_
          refine SWp.seq ?_
          obtain ⟨e21, he21, hj17⟩ := bind_some hj17
          obtain ⟨he21a, he21b, he21c, he21d⟩ := getI_some he21
          obtain ⟨r22, hc23, hj17⟩ := bind_some hj17
          refine SWp.drawT rfl (hPB _ rfl) [(24, .t (GProgram.enc false p1)), (25, .al (.slot 5) 0 [] none), (26, .t (vi i11)), (27, .ref (.slot 5) 0 [(i11.toNat, 0)]), (28, .t (vi e21)), (29, .t (.sl true 1 (List.map vi r22))), (30, .t (vi (r22.length : Int))), (31, .t (vi 0))] [[], [], [], [1, 2], [1, 2, 3], [0, 1, 2, 3, 4], [0, 1, 2, 3, 4, 5], []] (by simp) (by simp) (by simp [look]) rfl rfl rfl ?_ fun K hK => ?_
          · refine ⟨?_, ?_, ?_, ?_, ?_, ?_, ?_, ?_, trivial⟩
            all_goals (intro τ hbx hb hd hf K hK; try simp [vsAt] at hd; simp [vsAt] at hf; first | (refine wps_cons rfl fun K' hK' => ?_; simp [hN', hbx, hb, hd, hf, he21a, he21b, he21c, he21d]; exact hK' _ (wps_nil (hK _ (by simp [vsAt, hbx, he21a, he21b, he21c, he21d])))) | (refine wps_call [(.take, .tmp 24), (.take, .tmp 28)] rfl rfl ent50 (impl_CallsOf_ok _ _ hc23) fun K' hK' => ?_; simp [hN', hbx, hb, hd, hf, he21a, he21b, he21c, he21d]; exact hK' _ (wps_nil (hK _ (by simp [vsAt, hbx, he21a, he21b, he21c, he21d])))))
          refine wps_nil (hK _ ?_); clear hK
          show SWp E C _ _ _
          refine SWp.block ?_
          refine SWp.loopO [] [2, 5, 6, 29, 30, 31] [2] (fun v : (List Int) × Int => ⟨[(2, .ref (.box 2) 0 []), (5, .t (.sl true 1 (List.map vi v.1))), (6, .t (vi i11)), (29, .t (.sl true 1 (List.map vi r22))), (30, .t (vi (r22.length : Int))), (31, .t (vi v.2))], [(2, [.sl false 4 (List.map (GNode.enc false) p1.Nodes), .sl false 5 (List.map (GFn.enc false) p1.Fns)])]⟩) (impl_ReachedFns_l2 r22) _ (out10, 0) hj17 (by simp [hN']) ?_
          intro g s28 h26 ho27
          obtain ⟨out24, v25⟩ := g
          simp only [impl_ReachedFns_l2] at h26
          try dsimp only
          refine SWp.seqR rfl (hPB _ rfl) fun K hK => ?_
          refine wps_cons rfl fun K hK => ?_; simp [hN']; refine hK _ ?_; clear hK
          refine wps_nil (hK _ ?_); clear hK
          refine SWp.seq ?_
          rcases ite_or h26 with ⟨hb29, h26⟩ | ⟨hb30, h26⟩
          · refine SWp.condT' (b := decide (v25 < (r22.length : Int))) (by simp) hb29 ?_
            refine SWp.skip ?_
            show SWp E C _ _ _
            refine SWp.seq ?_
            refine SWp.block ?_
            refine SWp.seqR rfl (hPB _ rfl) fun K hK => ?_
            obtain ⟨e31, he31, h26⟩ := bind_some h26
            obtain ⟨he31a, he31b, he31c, he31d⟩ := getI_some he31
            iterate 3 (refine wps_cons rfl fun K hK => ?_; simp [hN', he31a, he31b, he31c, he31d]; refine hK _ ?_; clear hK)
            refine wps_nil (hK _ ?_); clear hK
            refine SWp.seqR rfl (hPB _ rfl) fun K hK => ?_
            iterate 2 (refine wps_cons rfl fun K hK => ?_; simp [hN']; refine hK _ ?_; clear hK)
            obtain ⟨r32, hc33, h26⟩ := bind_some h26
            refine wps_call [(.bor, .tmp 35), (.take, .tmp 36)] rfl rfl ent49 (impl_hasInt_ok _ _ hc33) fun K hK => ?_; simp [hN']; refine hK _ ?_; clear hK
            refine wps_cons rfl fun K hK => ?_; simp [hN']; refine hK _ ?_; clear hK
            refine wps_nil (hK _ ?_); clear hK
            rcases ite_or h26 with ⟨hb34, h26⟩ | ⟨hb35, h26⟩
            · refine SWp.condT' (b := !r32) (by simp) hb34 ?_
              refine SWp.reg rfl (hPB _ rfl) fun K hK => ?_
              iterate 3 (refine wps_cons rfl fun K hK => ?_; simp [hN']; refine hK _ ?_; clear hK)
              obtain ⟨l36, hl36, h26⟩ := bind_some h26
              obtain ⟨hl36a, hl36b, hl36d⟩ := appI_some hl36
              have hl36f : List.map vi out24 ++ List.map vi [e31] = List.map vi l36 := app_map (f := vi) hl36d
              simp [eSl] at hl36a hl36b hl36f
              iterate 2 (refine wps_cons rfl fun K hK => ?_; simp [hN', hl36a, hl36b, hl36f]; refine hK _ ?_; clear hK)
              refine wps_nil (hK _ ?_); clear hK
              show SWp E C _ _ _
              refine SWp.reg rfl (hPB _ rfl) fun K hK => ?_
              iterate 2 (refine wps_cons rfl fun K hK => ?_; simp [hN']; refine hK _ ?_; clear hK)
              refine wps_nil (hK _ ?_); clear hK
              cases h26
              exact ⟨_, [], rfl, by simp [hN']⟩
            · refine SWp.condF' (b := !r32) (by simp) hb35 ?_
              refine SWp.skip ?_
              show SWp E C _ _ _
              refine SWp.reg rfl (hPB _ rfl) fun K hK => ?_
              iterate 2 (refine wps_cons rfl fun K hK => ?_; simp [hN']; refine hK _ ?_; clear hK)
              refine wps_nil (hK _ ?_); clear hK
              cases h26
              exact ⟨_, [], rfl, by simp [hN']⟩
          · refine SWp.condF' (b := decide (v25 < (r22.length : Int))) (by simp) hb30 ?_
            refine SWp.exit ?_
            have h37 := congrArg some (ho27 _ (Option.some.inj h26).symm)
            cases h37
            exact hK18 _ () [] trivial (by simp [hN'])
        refine SWp.reg rfl (hPB _ rfl) fun K hK => ?_
        iterate 3 (refine wps_cons rfl fun K hK => ?_; simp [hN']; refine hK _ ?_; clear hK)
        refine wps_nil (hK _ ?_); clear hK
        cases h12
        exact ⟨_, [], rfl, by simp [hN']⟩
      · refine SWp.condF' (b := decide (i11 < (out10.length : Int))) (by simp) hb16 ?_
        refine SWp.exit ?_
        have h39 := congrArg some (ho13 _ (Option.some.inj h12).symm)
        cases h39
        exact hK8 _ () [] trivial (by simp [hN'])
    refine SWp.seqR rfl (hPB _ rfl) fun K hK => ?_
    refine wps_cons rfl fun K hK => ?_; simp [hN']; refine hK _ ?_; clear hK
    obtain ⟨q41, hc42, h⟩ := bind_some h
    refine wps_callIO rfl ent53 (sort_Ints_ok _ hc42) fun K hK => ?_; simp [hN']; refine hK _ ?_; clear hK
    refine wps_nil (hK _ ?_); clear hK
    refine SWp.seqR rfl (hPB _ rfl) fun K hK => ?_
    iterate 2 (refine wps_cons rfl fun K hK => ?_; simp [hN']; refine hK _ ?_; clear hK)
    refine wps_nil (hK _ ?_); clear hK
    cases h
    refine SWp.ret ?_
    simp [thenS, inBlockS, res23]
end Go.Proofs.T
set_option linter.unusedVariables false
set_option linter.unusedSimpArgs false
set_option maxHeartbeats 1000000
namespace Go.Proofs.T
open Go.OM
theorem res25 : Tryz.f25.results.toList = [.tmp 2] := rfl
theorem ent25 : Enters E.P 25 := enters_of Tryz.func25 (by simp [Tryz.f25]) rfl
theorem impl_DeadFns_ok (p1 : GProgram) {r0 : List Int} (h : impl_DeadFns p1 = some r0) : Ok E 25 [.val (GProgram.enc false p1)] [.sl true 1 (List.map vi r0)] [] := by
  refine ok_of_body (fn := Tryz.f25) Tryz.func25 rfl (by simp [Tryz.f25]) fun C hN hP => ?_
  have hPB : ∀ l, pinK [] l = true → pinB C.pin l = true := pinB_of (by rw [hP]; rfl)
  have hN' : C.N = 28 := hN
  clear hN
  unfold impl_DeadFns at h
  refine SWp.seqR rfl (hPB _ rfl) fun K hK => ?_
  iterate 2 (refine wps_cons rfl fun K hK => ?_; simp [hN']; refine hK _ ?_; clear hK)
  refine wps_nil (hK _ ?_); clear hK
  refine SWp.seqR rfl (hPB _ rfl) fun K hK => ?_
  iterate 5 (refine wps_cons rfl fun K hK => ?_; simp [hN']; refine hK _ ?_; clear hK)
  obtain ⟨r2, hc3, h⟩ := bind_some h
  refine wps_call [(.take, .tmp 6), (.take, .tmp 10)] rfl rfl ent23 (impl_ReachedFns_ok _ _ hc3) fun K hK => ?_; simp [hN']; refine hK _ ?_; clear hK
  refine wps_cons rfl fun K hK => ?_; simp [hN']; refine hK _ ?_; clear hK
  refine wps_nil (hK _ ?_); clear hK
  refine SWp.seqR rfl (hPB _ rfl) fun K hK => ?_
  refine wps_cons rfl fun K hK => ?_; simp [hN']; refine hK _ ?_; clear hK
  refine wps_nil (hK _ ?_); clear hK
  obtain ⟨out20, hj4, h⟩ := bind_some h
  refine SWp.seqC [4] [] (fun _ : Unit => ⟨[(4, .t (.sl true 1 (List.map vi out20)))], []⟩) (fun _ => True) (fun _ _ => ?_) fun K5 hK5 => ?_
  rotate_left
  · refine SWp.seqR rfl (hPB _ rfl) fun K hK => ?_
    iterate 4 (refine wps_cons rfl fun K hK => ?_; simp [hN']; refine hK _ ?_; clear hK)
    refine wps_nil (hK _ ?_); clear hK
    refine SWp.block ?_
    refine SWp.loopO [] [3, 4, 14, 15] [] (fun v : (List Int) × Int => ⟨[(3, .t (.sl true 1 (List.map vi r2))), (4, .t (.sl true 1 (List.map vi v.1))), (14, .t (vi (p1.Fns.length : Int))), (15, .t (vi v.2))], []⟩) (impl_DeadFns_l1 p1 r2) _ ([], 0) hj4 (by simp [hN']) ?_
    intro g s11 h9 ho10
    obtain ⟨out7, v8⟩ := g
    simp only [impl_DeadFns_l1] at h9
    try dsimp only
    refine SWp.seqR rfl (hPB _ rfl) fun K hK => ?_
    refine wps_cons rfl fun K hK => ?_; simp [hN']; refine hK _ ?_; clear hK
    refine wps_nil (hK _ ?_); clear hK
    refine SWp.seq ?_
    rcases ite_or h9 with ⟨hb12, h9⟩ | ⟨hb13, h9⟩
    · refine SWp.condT' (b := decide (v8 < (p1.Fns.length : Int))) (by simp) hb12 ?_
      refine SWp.skip ?_
      show SWp E C _ _ _
      refine SWp.seq ?_
      refine SWp.block ?_
      refine SWp.seqR rfl (hPB _ rfl) fun K hK => ?_
      iterate 2 (refine wps_cons rfl fun K hK => ?_; simp [hN']; refine hK _ ?_; clear hK)
      refine wps_nil (hK _ ?_); clear hK
      refine SWp.seqR rfl (hPB _ rfl) fun K hK => ?_
      iterate 2 (refine wps_cons rfl fun K hK => ?_; simp [hN']; refine hK _ ?_; clear hK)
      obtain ⟨r14, hc15, h9⟩ := bind_some h9
      refine wps_call [(.bor, .tmp 18), (.take, .tmp 19)] rfl rfl ent49 (impl_hasInt_ok _ _ hc15) fun K hK => ?_; simp [hN']; refine hK _ ?_; clear hK
      refine wps_cons rfl fun K hK => ?_; simp [hN']; refine hK _ ?_; clear hK
      refine wps_nil (hK _ ?_); clear hK
      rcases ite_or h9 with ⟨hb16, h9⟩ | ⟨hb17, h9⟩
      · refine SWp.condT' (b := !r14) (by simp) hb16 ?_
        refine SWp.reg rfl (hPB _ rfl) fun K hK => ?_
        iterate 3 (refine wps_cons rfl fun K hK => ?_; simp [hN']; refine hK _ ?_; clear hK)
        obtain ⟨l18, hl18, h9⟩ := bind_some h9
        obtain ⟨hl18a, hl18b, hl18d⟩ := appI_some hl18
        have hl18f : List.map vi out7 ++ List.map vi [v8] = List.map vi l18 := app_map (f := vi) hl18d
        simp [eSl] at hl18a hl18b hl18f
        iterate 2 (refine wps_cons rfl fun K hK => ?_; simp [hN', hl18a, hl18b, hl18f]; refine hK _ ?_; clear hK)
        refine wps_nil (hK _ ?_); clear hK
        show SWp E C _ _ _
        refine SWp.reg rfl (hPB _ rfl) fun K hK => ?_
        iterate 2 (refine wps_cons rfl fun K hK => ?_; simp [hN']; refine hK _ ?_; clear hK)
        refine wps_nil (hK _ ?_); clear hK
        cases h9
        exact ⟨_, [], rfl, by simp [hN']⟩
      · refine SWp.condF' (b := !r14) (by simp) hb17 ?_
        refine SWp.skip ?_
        show SWp E C _ _ _
        refine SWp.reg rfl (hPB _ rfl) fun K hK => ?_
        iterate 2 (refine wps_cons rfl fun K hK => ?_; simp [hN']; refine hK _ ?_; clear hK)
        refine wps_nil (hK _ ?_); clear hK
        cases h9
        exact ⟨_, [], rfl, by simp [hN']⟩
    · refine SWp.condF' (b := decide (v8 < (p1.Fns.length : Int))) (by simp) hb13 ?_
      refine SWp.exit ?_
      have h19 := congrArg some (ho10 _ (Option.some.inj h9).symm)
      cases h19
      exact hK5 _ () [] trivial (by simp [hN'])
  refine SWp.seqR rfl (hPB _ rfl) fun K hK => ?_
  iterate 2 (refine wps_cons rfl fun K hK => ?_; simp [hN']; refine hK _ ?_; clear hK)
  refine wps_nil (hK _ ?_); clear hK
  cases h
  refine SWp.ret ?_
  simp [thenS, inBlockS, res25]
end Go.Proofs.T
set_option linter.unusedVariables false
set_option linter.unusedSimpArgs false
set_option maxHeartbeats 1000000
namespace Go.Proofs.T
open Go.OM
theorem res7 : Tryz.f7.results.toList = [.tmp 2] := rfl
theorem laws_FnExactDeadFns_ok (aP1 : GProgram) {r0 : Bool} (h : laws_FnExactDeadFns aP1 = some r0) : Ok E 7 [.val (GProgram.enc false aP1)] [vb r0] [] := by
  refine ok_of_body (fn := Tryz.f7) Tryz.func7 rfl (by simp [Tryz.f7]) fun C hN hP => ?_
  have hPB : ∀ l, pinK [] l = true → pinB C.pin l = true := pinB_of (by rw [hP]; rfl)
  have hN' : C.N = 69 := hN
  clear hN
  unfold laws_FnExactDeadFns at h
  refine SWp.seqR rfl (hPB _ rfl) fun K hK => ?_
  iterate 2 (refine wps_cons rfl fun K hK => ?_; simp [hN']; refine hK _ ?_; clear hK)
  refine wps_nil (hK _ ?_); clear hK
  refine SWp.seqR rfl (hPB _ rfl) fun K hK => ?_
  refine wps_cons rfl fun K hK => ?_; simp [hN']; refine hK _ ?_; clear hK
  refine wps_nil (hK _ ?_); clear hK
  refine SWp.seqR rfl (hPB _ rfl) fun K hK => ?_
  iterate 2 (refine wps_cons rfl fun K hK => ?_; simp [hN']; refine hK _ ?_; clear hK)
  obtain ⟨r2, hc3, h⟩ := bind_some h
  refine wps_call [(.take, .tmp 11), (.take, .tmp 12)] rfl rfl ent8 (laws_szProgram_ok _ _ hc3) fun K hK => ?_; simp [hN']; refine hK _ ?_; clear hK
  refine wps_cons rfl fun K hK => ?_; simp [hN']; refine hK _ ?_; clear hK
  refine wps_nil (hK _ ?_); clear hK
  refine SWp.seq ?_
  refine SWp.seqR rfl (hPB _ rfl) fun K hK => ?_
  iterate 2 (refine wps_cons rfl fun K hK => ?_; simp [hN']; refine hK _ ?_; clear hK)
  refine wps_nil (hK _ ?_); clear hK
  rcases ite_or h with ⟨hb4, h⟩ | ⟨hb5, h⟩
  · refine SWp.condT' (b := decide (r2 < 0)) (by simp) hb4 ?_
    refine SWp.seqR rfl (hPB _ rfl) fun K hK => ?_
    refine wps_cons rfl fun K hK => ?_; simp [hN']; refine hK _ ?_; clear hK
    refine wps_nil (hK _ ?_); clear hK
    cases h
    refine SWp.ret ?_
    simp [thenS, inBlockS, res7]
  · refine SWp.condF' (b := decide (r2 < 0)) (by simp) hb5 ?_
    refine SWp.skip ?_
    show SWp E C _ _ _
    refine SWp.seqR rfl (hPB _ rfl) fun K hK => ?_
    refine wps_cons rfl fun K hK => ?_; simp [hN']; refine hK _ ?_; clear hK
    obtain ⟨r6, hc7, h⟩ := bind_some h
    refine wps_call [(.take, .tmp 16)] rfl rfl ent10 (laws_toProgram_ok _ hc7) fun K hK => ?_; simp [hN']; refine hK _ ?_; clear hK
    obtain ⟨r8, hc9, h⟩ := bind_some h
    refine wps_call [(.bor, .tmp 17)] rfl rfl ent24 (spec_DeadFns_ok _ hc9) fun K hK => ?_; simp [hN']; refine hK _ ?_; clear hK
    refine wps_cons rfl fun K hK => ?_; simp [hN']; refine hK _ ?_; clear hK
    refine wps_nil (hK _ ?_); clear hK
    refine SWp.seqR rfl (hPB _ rfl) fun K hK => ?_
    refine wps_cons rfl fun K hK => ?_; simp [hN']; refine hK _ ?_; clear hK
    obtain ⟨r10, hc11, h⟩ := bind_some h
    refine wps_call [(.take, .tmp 19)] rfl rfl ent10 (laws_toProgram_ok _ hc11) fun K hK => ?_; simp [hN']; refine hK _ ?_; clear hK
    iterate 2 (refine wps_cons rfl fun K hK => ?_; simp [hN']; refine hK _ ?_; clear hK)
    refine wps_nil (hK _ ?_); clear hK
    refine SWp.seqR rfl (hPB _ rfl) fun K hK => ?_
    refine wps_cons rfl fun K hK => ?_; simp [hN']; refine hK _ ?_; clear hK
    obtain ⟨r12, hc13, h⟩ := bind_some h
    refine wps_call [(.bor, .tmp 21)] rfl rfl ent25 (impl_DeadFns_ok _ hc13) fun K hK => ?_; simp [hN']; refine hK _ ?_; clear hK
    refine wps_cons rfl fun K hK => ?_; simp [hN']; refine hK _ ?_; clear hK
    refine wps_nil (hK _ ?_); clear hK
    refine SWp.seq ?_
    refine SWp.seqR rfl (hPB _ rfl) fun K hK => ?_
    iterate 2 (refine wps_cons rfl fun K hK => ?_; simp [hN']; refine hK _ ?_; clear hK)
    obtain ⟨r14, hc15, h⟩ := bind_some h
    refine wps_call [(.bor, .tmp 23), (.bor, .tmp 24)] rfl rfl ent19 (laws_eqIntS_ok _ _ hc15) fun K hK => ?_; simp [hN']; refine hK _ ?_; clear hK
    refine wps_cons rfl fun K hK => ?_; simp [hN']; refine hK _ ?_; clear hK
    refine wps_nil (hK _ ?_); clear hK
    rcases ite_or h with ⟨hb16, h⟩ | ⟨hb17, h⟩
    · refine SWp.condT' (b := !r14) (by simp) hb16 ?_
      refine SWp.seqR rfl (hPB _ rfl) fun K hK => ?_
      refine wps_cons rfl fun K hK => ?_; simp [hN']; refine hK _ ?_; clear hK
      refine wps_nil (hK _ ?_); clear hK
      cases h
      refine SWp.ret ?_
      simp [thenS, inBlockS, res7]
    · refine SWp.condF' (b := !r14) (by simp) hb17 ?_
      refine SWp.skip ?_
      show SWp E C _ _ _
      refine SWp.seq ?_
      refine SWp.seq ?_
      obtain ⟨r19, hc20, h⟩ := bind_some h
      refine SWp.drawT rfl (hPB _ rfl) [(27, .al (.box 5) 0 [] (some 2)), (28, .t (GProgram.enc false aP1)), (29, .t (GProgram.enc true r19))] [[], [], [1], [0, 1, 2], [0, 1, 2, 3]] (by simp) (by simp) (by simp [look]) rfl rfl rfl ?_ fun K hK => ?_
      · refine ⟨?_, ?_, ?_, trivial⟩
        all_goals (intro τ hbx hb hd hf K hK; try simp [vsAt] at hd; simp [vsAt] at hf; first | (refine wps_cons rfl fun K' hK' => ?_; simp [hN', hbx, hb, hd, hf]; exact hK' _ (wps_nil (hK _ (by simp [vsAt, hbx])))) | (refine wps_call [(.take, .tmp 28)] rfl rfl ent10 (laws_toProgram_ok _ hc20) fun K' hK' => ?_; simp [hN', hbx, hb, hd, hf]; exact hK' _ (wps_nil (hK _ (by simp [vsAt, hbx])))))
      obtain ⟨r21, hc22, h⟩ := bind_some h
      refine wps_call [(.bor, .tmp 27), (.bor, .tmp 29)] rfl rfl ent12 (laws_eqProgram_ok _ _ hc22) fun K hK => ?_; simp [hN']; refine hK _ ?_; clear hK
      refine wps_cons rfl fun K hK => ?_; simp [hN']; refine hK _ ?_; clear hK
      refine wps_nil (hK _ ?_); clear hK
      show SWp E C _ _ _
      rcases ite_or h with ⟨hb23, h⟩ | ⟨hb24, h⟩
      · refine SWp.condT' (b := !r21) (by simp) hb23 ?_
        refine SWp.seqR rfl (hPB _ rfl) fun K hK => ?_
        refine wps_cons rfl fun K hK => ?_; simp [hN']; refine hK _ ?_; clear hK
        refine wps_nil (hK _ ?_); clear hK
        cases h
        refine SWp.ret ?_
        simp [thenS, inBlockS, res7]
      · refine SWp.condF' (b := !r21) (by simp) hb24 ?_
        refine SWp.skip ?_
        show SWp E C _ _ _
        refine SWp.seqR rfl (hPB _ rfl) fun K hK => ?_
        refine wps_cons rfl fun K hK => ?_; simp [hN']; refine hK _ ?_; clear hK
        refine wps_nil (hK _ ?_); clear hK
        refine SWp.seqR rfl (hPB _ rfl) fun K hK => ?_
        iterate 2 (refine wps_cons rfl fun K hK => ?_; simp [hN']; refine hK _ ?_; clear hK)
        obtain ⟨⟨r25, q26⟩, hc27, h⟩ := bind_some h
        try dsimp only at h
        refine wps_callIO rfl ent15 (laws_markProgram_ok _ _ hc27) fun K hK => ?_; simp [hN']; refine hK _ ?_; clear hK
        refine wps_cons rfl fun K hK => ?_; simp [hN']; refine hK _ ?_; clear hK
        refine wps_nil (hK _ ?_); clear hK
        refine SWp.seq ?_
        obtain ⟨v34, hj28, h⟩ := bind_some h
        refine SWp.seqRC rfl (hPB _ rfl) [1, 4, 6, 42] [1] (fun _ : Unit => ⟨[(1, .ref (.box 1) 0 []), (4, .t (.sl true 1 (List.map vi r8))), (6, .t (.sl true 1 (List.map vi r12))), (42, .t (vb v34))], [(1, [.sl false 4 (List.map (GNode.enc false) aP1.Nodes), .sl false 5 (List.map (GFn.enc false) aP1.Fns)])]⟩) (fun _ => True) (fun _ _ => ?_) fun K29 hK29 => ?_
        rotate_left
        · refine wps_cons rfl fun K hK => ?_; simp [hN']; refine hK _ ?_; clear hK
          iterate 2 (refine wps_cons rfl fun K hK => ?_; simp [hN']; refine hK _ ?_; clear hK)
          rcases ite_or hj28 with ⟨hb30, hj28⟩ | ⟨hb31, hj28⟩
          · have hb30s := hb30
            try simp at hb30s
            iterate 4 (refine wps_off fun K hK => ?_; simp [hN', hb30, hb30s]; refine hK _ ?_; clear hK)
            refine wps_cons rfl fun K hK => ?_; simp [hN', hb30, hb30s]; refine hK _ ?_; clear hK
            refine wps_nil ?_
            cases hj28
            exact hK29 _ () [] trivial (by simp [hN', hb30, hb30s])
          · have hb31s := hb31
            try simp at hb31s
            iterate 2 (refine wps_cons rfl fun K hK => ?_; simp [hN', hb31, hb31s]; refine hK _ ?_; clear hK)
            obtain ⟨r32, hc33, hj28⟩ := bind_some hj28
            refine wps_call [(.bor, .tmp 38), (.bor, .tmp 39)] rfl rfl ent19 (laws_eqIntS_ok _ _ hc33) fun K hK => ?_; simp [hN', hb31, hb31s]; refine hK _ ?_; clear hK
            iterate 2 (refine wps_cons rfl fun K hK => ?_; simp [hN', hb31, hb31s]; refine hK _ ?_; clear hK)
            refine wps_nil ?_
            cases hj28
            exact hK29 _ () [] trivial (by simp [hN', hb31, hb31s])
        rcases ite_or h with ⟨hb35, h⟩ | ⟨hb36, h⟩
        · refine SWp.condT' (b := v34) (by simp) hb35 ?_
          refine SWp.seqR rfl (hPB _ rfl) fun K hK => ?_
          refine wps_cons rfl fun K hK => ?_; simp [hN']; refine hK _ ?_; clear hK
          refine wps_nil (hK _ ?_); clear hK
          cases h
          refine SWp.ret ?_
          simp [thenS, inBlockS, res7]
        · refine SWp.condF' (b := v34) (by simp) hb36 ?_
          refine SWp.skip ?_
          show SWp E C _ _ _
          refine SWp.seqR rfl (hPB _ rfl) fun K hK => ?_
          refine wps_cons rfl fun K hK => ?_; simp [hN']; refine hK _ ?_; clear hK
          refine wps_nil (hK _ ?_); clear hK
          refine SWp.seqR rfl (hPB _ rfl) fun K hK => ?_
          iterate 2 (refine wps_cons rfl fun K hK => ?_; simp [hN']; refine hK _ ?_; clear hK)
          obtain ⟨⟨r37, q38⟩, hc39, h⟩ := bind_some h
          try dsimp only at h
          refine wps_callIO rfl ent20 (laws_markIntS_ok _ _ hc39) fun K hK => ?_; simp [hN']; refine hK _ ?_; clear hK
          refine wps_cons rfl fun K hK => ?_; simp [hN']; refine hK _ ?_; clear hK
          refine wps_nil (hK _ ?_); clear hK
          refine SWp.seqR rfl (hPB _ rfl) fun K hK => ?_
          refine wps_cons rfl fun K hK => ?_; simp [hN']; refine hK _ ?_; clear hK
          refine wps_nil (hK _ ?_); clear hK
          refine SWp.seqR rfl (hPB _ rfl) fun K hK => ?_
          iterate 2 (refine wps_cons rfl fun K hK => ?_; simp [hN']; refine hK _ ?_; clear hK)
          obtain ⟨r40, hc41, h⟩ := bind_some h
          refine wps_call [(.bor, .tmp 46), (.take, .tmp 47)] rfl rfl ent21 (laws_heldIntS_ok _ _ hc41) fun K hK => ?_; simp [hN']; refine hK _ ?_; clear hK
          refine wps_cons rfl fun K hK => ?_; simp [hN']; refine hK _ ?_; clear hK
          refine wps_nil (hK _ ?_); clear hK
          refine SWp.seq ?_
          refine SWp.seqR rfl (hPB _ rfl) fun K hK => ?_
          iterate 2 (refine wps_cons rfl fun K hK => ?_; simp [hN']; refine hK _ ?_; clear hK)
          refine wps_nil (hK _ ?_); clear hK
          rcases ite_or h with ⟨hb42, h⟩ | ⟨hb43, h⟩
          · refine SWp.condT' (b := decide (r40 < 0)) (by simp) hb42 ?_
            refine SWp.seqR rfl (hPB _ rfl) fun K hK => ?_
            refine wps_cons rfl fun K hK => ?_; simp [hN']; refine hK _ ?_; clear hK
            refine wps_nil (hK _ ?_); clear hK
            cases h
            refine SWp.ret ?_
            simp [thenS, inBlockS, res7]
          · refine SWp.condF' (b := decide (r40 < 0)) (by simp) hb43 ?_
            refine SWp.skip ?_
            show SWp E C _ _ _
            refine SWp.seq ?_
            refine SWp.seqR rfl (hPB _ rfl) fun K hK => ?_
            iterate 3 (refine wps_cons rfl fun K hK => ?_; simp [hN']; refine hK _ ?_; clear hK)
            refine wps_nil (hK _ ?_); clear hK
            rcases ite_or h with ⟨hb44, h⟩ | ⟨hb45, h⟩
            · refine SWp.condT' (b := r40 != r37) (by simp) hb44 ?_
              refine SWp.seqR rfl (hPB _ rfl) fun K hK => ?_
              refine wps_cons rfl fun K hK => ?_; simp [hN']; refine hK _ ?_; clear hK
              refine wps_nil (hK _ ?_); clear hK
              cases h
              refine SWp.ret ?_
              simp [thenS, inBlockS, res7]
            · refine SWp.condF' (b := r40 != r37) (by simp) hb45 ?_
              refine SWp.skip ?_
              show SWp E C _ _ _
              refine SWp.seqR rfl (hPB _ rfl) fun K hK => ?_
              refine wps_cons rfl fun K hK => ?_; simp [hN']; refine hK _ ?_; clear hK
              obtain ⟨r46, hc47, h⟩ := bind_some h
              refine wps_call [(.take, .tmp 54)] rfl rfl ent10 (laws_toProgram_ok _ hc47) fun K hK => ?_; simp [hN']; refine hK _ ?_; clear hK
              obtain ⟨r48, hc49, h⟩ := bind_some h
              refine wps_call [(.bor, .tmp 55)] rfl rfl ent25 (impl_DeadFns_ok _ hc49) fun K hK => ?_; simp [hN']; refine hK _ ?_; clear hK
              refine wps_cons rfl fun K hK => ?_; simp [hN']; refine hK _ ?_; clear hK
              refine wps_nil (hK _ ?_); clear hK
              refine SWp.seq ?_
              refine SWp.seqR rfl (hPB _ rfl) fun K hK => ?_
              iterate 2 (refine wps_cons rfl fun K hK => ?_; simp [hN']; refine hK _ ?_; clear hK)
              obtain ⟨r50, hc51, h⟩ := bind_some h
              refine wps_call [(.bor, .tmp 57), (.bor, .tmp 58)] rfl rfl ent19 (laws_eqIntS_ok _ _ hc51) fun K hK => ?_; simp [hN']; refine hK _ ?_; clear hK
              refine wps_cons rfl fun K hK => ?_; simp [hN']; refine hK _ ?_; clear hK
              refine wps_nil (hK _ ?_); clear hK
              rcases ite_or h with ⟨hb52, h⟩ | ⟨hb53, h⟩
              · refine SWp.condT' (b := !r50) (by simp) hb52 ?_
                refine SWp.seqR rfl (hPB _ rfl) fun K hK => ?_
                refine wps_cons rfl fun K hK => ?_; simp [hN']; refine hK _ ?_; clear hK
                refine wps_nil (hK _ ?_); clear hK
                cases h
                refine SWp.ret ?_
                simp [thenS, inBlockS, res7]
              · refine SWp.condF' (b := !r50) (by simp) hb53 ?_
                refine SWp.skip ?_
                show SWp E C _ _ _
                refine SWp.seqR rfl (hPB _ rfl) fun K hK => ?_
                refine wps_cons rfl fun K hK => ?_; simp [hN']; refine hK _ ?_; clear hK
                refine wps_nil (hK _ ?_); clear hK
                refine SWp.seqR rfl (hPB _ rfl) fun K hK => ?_
                iterate 2 (refine wps_cons rfl fun K hK => ?_; simp [hN']; refine hK _ ?_; clear hK)
                obtain ⟨r54, hc55, h⟩ := bind_some h
                refine wps_call [(.bor, .tmp 61), (.take, .tmp 62)] rfl rfl ent21 (laws_heldIntS_ok _ _ hc55) fun K hK => ?_; simp [hN']; refine hK _ ?_; clear hK
                refine wps_cons rfl fun K hK => ?_; simp [hN']; refine hK _ ?_; clear hK
                refine wps_nil (hK _ ?_); clear hK
                refine SWp.seq ?_
                refine SWp.seqR rfl (hPB _ rfl) fun K hK => ?_
                iterate 2 (refine wps_cons rfl fun K hK => ?_; simp [hN']; refine hK _ ?_; clear hK)
                refine wps_nil (hK _ ?_); clear hK
                rcases ite_or h with ⟨hb56, h⟩ | ⟨hb57, h⟩
                · refine SWp.condT' (b := decide (r54 < 0)) (by simp) hb56 ?_
                  refine SWp.seqR rfl (hPB _ rfl) fun K hK => ?_
                  refine wps_cons rfl fun K hK => ?_; simp [hN']; refine hK _ ?_; clear hK
                  refine wps_nil (hK _ ?_); clear hK
                  cases h
                  refine SWp.ret ?_
                  simp [thenS, inBlockS, res7]
                · refine SWp.condF' (b := decide (r54 < 0)) (by simp) hb57 ?_
                  refine SWp.skip ?_
                  show SWp E C _ _ _
                  refine SWp.seq ?_
                  refine SWp.seqR rfl (hPB _ rfl) fun K hK => ?_
                  iterate 3 (refine wps_cons rfl fun K hK => ?_; simp [hN']; refine hK _ ?_; clear hK)
                  refine wps_nil (hK _ ?_); clear hK
                  rcases ite_or h with ⟨hb58, h⟩ | ⟨hb59, h⟩
                  · refine SWp.condT' (b := r54 != r37) (by simp) hb58 ?_
                    refine SWp.seqR rfl (hPB _ rfl) fun K hK => ?_
                    refine wps_cons rfl fun K hK => ?_; simp [hN']; refine hK _ ?_; clear hK
                    refine wps_nil (hK _ ?_); clear hK
                    cases h
                    refine SWp.ret ?_
                    simp [thenS, inBlockS, res7]
                  · refine SWp.condF' (b := r54 != r37) (by simp) hb59 ?_
                    refine SWp.skip ?_
                    show SWp E C _ _ _
                    refine SWp.seqR rfl (hPB _ rfl) fun K hK => ?_
                    refine wps_cons rfl fun K hK => ?_; simp [hN']; refine hK _ ?_; clear hK
                    refine wps_nil (hK _ ?_); clear hK
                    cases h
                    refine SWp.ret ?_
                    simp [thenS, inBlockS, res7]
end Go.Proofs.T
set_option linter.unusedVariables false
set_option linter.unusedSimpArgs false
namespace Go.OM
theorem w64 {n : Int} (h1 : -9223372036854775808 ≤ n) (h2 : n ≤ 9223372036854775807) : IntKind.wrap .i64 n = n := wrap64 h1 h2
theorem w64_succ {k n : Nat} (hk : k < n) (hn : n ≤ maxLen) : IntKind.wrap .i64 ((k : Int) + 1) = ((k + 1 : Nat) : Int) := by
  have hn' : n ≤ 9223372036854775807 := hn
  rw [w64 (by omega) (by omega)]; omega
@[simp] theorem getI_nat {α : Type} (l : List α) (k : Nat) : getI l (k : Int) = l[k]? := by simp [getI]
theorem getI_at {α : Type} {l : List α} {k : Nat} (hk : k < l.length) : getI l (k : Int) = some l[k] := by simp [hk]
theorem sEq_iff (x y : ByteArray) : sEq x y = decide (x = y) := by
  unfold sEq
  have hxy : x.toList = y.toList ↔ x = y := by
    constructor
    · intro h
      have hx : ∀ z : ByteArray, z.toList = z.data.toList := by
        intro z
        have loop : ∀ (n i : Nat) (r : List UInt8), z.size - i = n → ByteArray.toList.loop z i r = r.reverse ++ z.data.toList.drop i := by
          intro n
          induction n with
          | zero =>
            intro i r hn
            unfold ByteArray.toList.loop
            rw [if_neg (by omega), List.drop_eq_nil_of_le (by have : z.data.toList.length = z.size := Array.length_toList
                                                              omega)]
            simp
          | succ n ih =>
            intro i r hn
            unfold ByteArray.toList.loop
            rw [if_pos (by omega), ih (i + 1) _ (by omega)]
            have hlt : i < z.data.toList.length := by have : z.data.toList.length = z.size := Array.length_toList
                                                      omega
            rw [List.drop_eq_getElem_cons hlt]
            have hz : i < z.size := by omega
            simp [ByteArray.get!, Array.getElem!_eq_getD, Array.getD, hz]
        unfold ByteArray.toList
        rw [loop _ 0 [] rfl]; simp
      rw [hx, hx] at h
      cases x; cases y
      simp only [ByteArray.mk.injEq]
      exact Array.toList_inj.1 h
    · intro h; rw [h]
  by_cases h : x = y
  · simp [h]
  · have : ¬ (x.toList = y.toList) := fun e => h (hxy.1 e)
    simp [h, this]
theorem ofNat_lt_true {k n : Nat} (h : k < n) : decide ((k : Int) < (n : Int)) = true := by simpa using h
theorem szS_gen {α : Type} (ok : α → Prop) (a : List α) (f : Int × Int → Option ((Int × Int) ⊕ (Int ⊕ Int))) (B : Int)
    (hf : ∀ (m : Int) (k : Nat) (h0 : 0 ≤ m) (h1 : m ≤ B) (hk : k < a.length), ∃ r, r ≤ m ∧ (0 ≤ r → ok a[k]) ∧ f (m, k) = some (if r < 0 then .inr (.inr (-1)) else .inl (r, ((k + 1 : Nat) : Int))))
    (he : ∀ m, f (m, a.length) = some (.inr (.inl m))) (n : Int) (h0 : 0 ≤ n) (h1 : n ≤ B) :
    ∃ j, loopP f (n, 0) = some j ∧ (j = .inr (-1) ∨ ∃ m, j = .inl m ∧ 0 ≤ m ∧ m ≤ n ∧ ∀ x ∈ a, ok x) := by
  refine loopP_run (f := f) (fun s : Int × Int => ∃ k : Nat, s.2 = k ∧ k ≤ a.length ∧ 0 ≤ s.1 ∧ s.1 ≤ n ∧ ∀ (j : Nat) (h : j < a.length), j < k → ok a[j]) (fun s => a.length - s.2.toNat) _ ?_ (n, 0) ⟨0, rfl, by omega, h0, by simp, fun j _ h => by omega⟩
  rintro ⟨m, i⟩ ⟨k, hi, hk, h2, h3, h4⟩
  simp only at hi h2 h3
  subst hi
  by_cases hlt : k < a.length
  · obtain ⟨r, r1, r2, r3⟩ := hf m k h2 (by omega) hlt
    rw [r3]
    by_cases hr : r < 0
    · right
      rw [if_pos hr]
      exact ⟨_, rfl, .inl rfl⟩
    · left
      rw [if_neg hr]
      refine ⟨_, rfl, ⟨k + 1, rfl, by omega, by simp only; omega, by simp only; omega, fun j h hj => ?_⟩, ?_⟩
      · by_cases e : j = k
        · subst e; exact r2 (by omega)
        · exact h4 j h (by omega)
      · simp only [Int.toNat_natCast]; omega
  · right
    have hke : k = a.length := by omega
    subst hke
    rw [he]
    refine ⟨_, rfl, .inr ⟨m, rfl, h2, h3, fun x hx => ?_⟩⟩
    obtain ⟨j, hj, rfl⟩ := List.mem_iff_getElem.1 hx
    exact h4 j hj hj
theorem toS_gen {α : Type} (a : List α) (z : α) (f : List α × Int → Option ((List α × Int) ⊕ List α))
    (hf : ∀ (out : List α) (k : Nat) (hk : k < a.length), out.length = a.length → f (out, k) = some (.inl (out.set k a[k], ((k + 1 : Nat) : Int))))
    (he : ∀ out, f (out, a.length) = some (.inr out)) : loopP f (List.replicate a.length z, 0) = some a := by
  obtain ⟨r, h1, h2⟩ := loopP_run (fun s : List α × Int => ∃ k : Nat, s.2 = k ∧ k ≤ a.length ∧ s.1.length = a.length ∧ ∀ j, j < k → s.1[j]? = a[j]?) (fun s => a.length - s.2.toNat) (fun r => r = a) (f := f) (by
    rintro ⟨out, i⟩ ⟨k, hi, hk, h2, h3⟩
    simp only at hi h2 h3
    subst hi
    by_cases hlt : k < a.length
    · left
      rw [hf out k hlt h2]
      refine ⟨_, rfl, ⟨k + 1, rfl, by omega, by simpa using h2, fun j hj => ?_⟩, by simp only [Int.toNat_natCast]; omega⟩
      simp only [List.getElem?_set]
      by_cases e : k = j
      · subst e; simp [h2, hlt]
      · rw [if_neg e]; exact h3 j (by omega)
    · right
      have hke : k = a.length := by omega
      subst hke
      rw [he]
      refine ⟨_, rfl, ?_⟩
      apply List.ext_getElem?
      intro j
      by_cases hj : j < a.length
      · exact h3 j hj
      · rw [List.getElem?_eq_none (by omega), List.getElem?_eq_none (by omega)]) (List.replicate a.length z, 0) ⟨0, rfl, by omega, by simp, fun j h => by omega⟩
  rw [h1, h2]
theorem eqS_gen {α : Type} (a b : List α) (p : α → α → Bool) (hp : ∀ x ∈ a, ∀ y, y ∈ b → (p x y = true ↔ x = y)) (hlen : a.length = b.length) (f : Int → Option (Int ⊕ (Unit ⊕ Bool)))
    (hf : ∀ (k : Nat) (hk : k < a.length) (hk2 : k < b.length), f k = some (if p a[k] b[k] = true then .inl ((k + 1 : Nat) : Int) else .inr (.inr false)))
    (he : f a.length = some (.inr (.inl ()))) : (a = b → loopP f 0 = some (.inl ())) ∧ (a ≠ b → loopP f 0 = some (.inr false)) := by
  obtain ⟨r, h1, h2⟩ := loopP_run (fun i : Int => ∃ k : Nat, i = k ∧ k ≤ a.length ∧ ∀ j, j < k → a[j]? = b[j]?) (fun i => a.length - i.toNat) (fun r => (r = .inl () ∧ a = b) ∨ (r = .inr false ∧ a ≠ b)) (f := f) (by
    rintro i ⟨k, rfl, hk, h3⟩
    by_cases hlt : k < a.length
    · have hlt2 : k < b.length := by omega
      rw [hf k hlt hlt2]
      by_cases hpk : p a[k] b[k] = true
      · left
        rw [if_pos hpk]
        refine ⟨_, rfl, ⟨k + 1, rfl, by omega, fun j hj => ?_⟩, by simp only [Int.toNat_natCast]; omega⟩
        by_cases e : j = k
        · subst e
          rw [List.getElem?_eq_getElem hlt, List.getElem?_eq_getElem hlt2, (hp _ (List.getElem_mem hlt) _ (List.getElem_mem hlt2)).1 hpk]
        · exact h3 j (by omega)
      · right
        rw [if_neg hpk]
        refine ⟨_, rfl, .inr ⟨rfl, fun e => hpk ?_⟩⟩
        subst e
        exact (hp _ (List.getElem_mem hlt) _ (List.getElem_mem hlt)).2 rfl
    · right
      have hke : k = a.length := by omega
      subst hke
      rw [he]
      refine ⟨_, rfl, .inl ⟨rfl, ?_⟩⟩
      apply List.ext_getElem?
      intro j
      by_cases hj : j < a.length
      · exact h3 j hj
      · rw [List.getElem?_eq_none (by omega), List.getElem?_eq_none (by omega)]) 0 ⟨0, rfl, by omega, fun j h => by omega⟩
  rcases h2 with ⟨e, hab⟩ | ⟨e, hab⟩
  · exact ⟨fun _ => by rw [h1, e], fun h => absurd hab h⟩
  · exact ⟨fun h => absurd h hab, fun _ => by rw [h1, e]⟩
theorem mkI_len {α : Type} (b : Int) (n : Nat) (z : α) (h1 : b * n ≤ 140737488355328) (h2 : (n : Int) ≤ 140737488355328) : mkI b (n : Int) z = some (List.replicate n z) := by
  unfold mkI
  rw [if_pos ⟨by omega, h1, h2⟩]
  simp
theorem bindS_def {α β : Type} (x : α) (f : α → β) : bindS x f = f x := rfl
end Go.OM
set_option linter.unusedVariables false
set_option linter.unusedSimpArgs false
namespace Go.OM
theorem loopP_inr {α ρ : Type} {f : α → Option (α ⊕ ρ)} {a : α} {r : ρ} (h : f a = some (.inr r)) : loopP f a = some r := by rw [loopP_eq, h]; rfl
theorem loopP_inl {α ρ : Type} {f : α → Option (α ⊕ ρ)} {a b : α} (h : f a = some (.inl b)) : loopP f a = loopP f b := by rw [loopP_eq, h]; rfl
theorem loopP_find {α ρ : Type} (l : List α) (q : α → Option ρ) (f : Int → Option (Int ⊕ (Unit ⊕ ρ)))
    (hf : ∀ (k : Nat) (h : k < l.length), f k = some (match q l[k] with | none => .inl ((k + 1 : Nat) : Int) | some r => .inr (.inr r)))
    (he : f l.length = some (.inr (.inl ()))) : loopP f 0 = some (match l.findSome? q with | some r => .inr r | none => .inl ()) := by
  have key : ∀ (n k : Nat), n = l.length - k → k ≤ l.length → loopP f k = some (match (l.drop k).findSome? q with | some r => .inr r | none => .inl ()) := by
    intro n
    induction n with
    | zero =>
      intro k hn hk
      have : k = l.length := by omega
      subst this
      rw [loopP_inr he, List.drop_length]; rfl
    | succ n ih =>
      intro k hn hk
      have hlt : k < l.length := by omega
      rw [List.drop_eq_getElem_cons hlt, List.findSome?_cons]
      cases hq : q l[k] with
      | none =>
        have h1 := hf k hlt
        rw [hq] at h1
        rw [loopP_inl h1]
        exact ih (k + 1) (by omega) (by omega)
      | some r =>
        have h1 := hf k hlt
        rw [hq] at h1
        rw [loopP_inr h1]
  have := key l.length 0 (by omega) (by omega)
  simpa using this
theorem find_all {α : Type} (l : List α) (p : α → Bool) (b : Bool) : l.findSome? (fun x => if p x = true then none else some b) = if l.all p = true then none else some b := by
  induction l with
  | nil => rfl
  | cons x l ih =>
    rw [List.findSome?_cons, List.all_cons]
    cases hp : p x <;> simp [ih]
theorem find_any {α : Type} (l : List α) (p : α → Bool) (b : Bool) : l.findSome? (fun x => if p x = true then some b else none) = if l.any p = true then some b else none := by
  induction l with
  | nil => rfl
  | cons x l ih =>
    rw [List.findSome?_cons, List.any_cons]
    cases hp : p x <;> simp [ih]
theorem loopP_all {α : Type} (l : List α) (p : α → Bool) (f : Int → Option (Int ⊕ (Unit ⊕ Bool)))
    (hf : ∀ (k : Nat) (h : k < l.length), f k = some (if p l[k] = true then .inl ((k + 1 : Nat) : Int) else .inr (.inr false)))
    (he : f l.length = some (.inr (.inl ()))) : loopP f 0 = some (if l.all p = true then .inl () else .inr false) := by
  rw [loopP_find l (fun x => if p x = true then none else some false) f (fun k h => by rw [hf k h]; cases p l[k] <;> rfl) he, find_all]
  cases l.all p <;> rfl
theorem loopP_any {α : Type} (l : List α) (p : α → Bool) (f : Int → Option (Int ⊕ (Unit ⊕ Bool)))
    (hf : ∀ (k : Nat) (h : k < l.length), f k = some (if p l[k] = true then .inr (.inr true) else .inl ((k + 1 : Nat) : Int)))
    (he : f l.length = some (.inr (.inl ()))) : loopP f 0 = some (if l.any p = true then .inr true else .inl ()) := by
  rw [loopP_find l (fun x => if p x = true then some true else none) f (fun k h => by rw [hf k h]; cases p l[k] <;> rfl) he, find_any]
  cases l.any p <;> rfl
def foldE {α σ ρ : Type} (g : σ → α → σ ⊕ ρ) (fin : σ → ρ) : List α → σ → ρ
  | [], s => fin s
  | x :: l, s => match g s x with
    | .inl s' => foldE g fin l s'
    | .inr r => r
theorem loopP_fold {α σ τ ρ : Type} (l : List α) (mk : σ → Nat → τ) (I : Nat → σ → Prop) (g : σ → α → σ ⊕ ρ) (fin : σ → ρ) (f : τ → Option (τ ⊕ ρ))
    (hf : ∀ (s : σ) (k : Nat) (h : k < l.length), I k s → (∃ s', g s l[k] = .inl s' ∧ f (mk s k) = some (.inl (mk s' (k + 1))) ∧ I (k + 1) s') ∨ ∃ r, g s l[k] = .inr r ∧ f (mk s k) = some (.inr r))
    (he : ∀ s, I l.length s → f (mk s l.length) = some (.inr (fin s))) (s : σ) (h0 : I 0 s) : loopP f (mk s 0) = some (foldE g fin l s) := by
  have key : ∀ (n k : Nat) (s : σ), n = l.length - k → k ≤ l.length → I k s → loopP f (mk s k) = some (foldE g fin (l.drop k) s) := by
    intro n
    induction n with
    | zero =>
      intro k s hn hk hI
      have : k = l.length := by omega
      subst this
      rw [loopP_inr (he s hI), List.drop_length]; rfl
    | succ n ih =>
      intro k s hn hk hI
      have hlt : k < l.length := by omega
      rw [List.drop_eq_getElem_cons hlt]
      rcases hf s k hlt hI with ⟨s', h1, h2, h3⟩ | ⟨r, h1, h2⟩
      · rw [loopP_inl h2, ih (k + 1) s' (by omega) (by omega) h3]
        simp only [foldE, h1]
      · rw [loopP_inr h2]
        simp only [foldE, h1]
  have := key l.length 0 s (by omega) (by omega) h0
  simpa using this
theorem markS_gen {α : Type} (ok : α → Prop) (M : α → Int → Int → Prop) (W : Nat) (B : Int) (f : List α × Int × Int → Option ((List α × Int × Int) ⊕ (List α × Int)))
    (hf : ∀ (out : List α) (k : Int) (i : Nat) (hi : i < out.length), out.length ≤ 1048576 → 0 ≤ k → k + W ≤ B → ok out[i] → ∃ k' x', k ≤ k' ∧ k' ≤ k + W ∧ M x' k k' ∧ f (out, k, i) = some (.inl (out.set i x', k', ((i + 1 : Nat) : Int))))
    (he : ∀ out k, f (out, k, (out.length : Int)) = some (.inr (out, k)))
    (a : List α) (ha : a.length ≤ 1048576) (hok : ∀ x ∈ a, ok x) (k : Int) (h0 : 0 ≤ k) (h1 : k + W * 1048576 ≤ B) :
    ∃ k' a', loopP f (a, k, 0) = some (a', k') ∧ k ≤ k' ∧ k' ≤ k + W * 1048576 ∧ a'.length = a.length ∧ ∃ ks : Nat → Int, ks 0 = k ∧ ks a.length = k' ∧ ∀ (j : Nat) (hj : j < a'.length), M a'[j] (ks j) (ks (j + 1)) ∧ 0 ≤ ks j ∧ ks j ≤ ks (j + 1) ∧ ks j ≤ B := by
  have hWm : ∀ j : Nat, j ≤ a.length → (W : Int) * j ≤ W * 1048576 := fun j hj => Int.mul_le_mul_of_nonneg_left (by omega) (by omega)
  have hWs : ∀ j : Nat, j < a.length → (W : Int) * j + W ≤ W * 1048576 := fun j hj => by
    have : (W : Int) * j + W = W * ((j + 1 : Nat) : Int) := by rw [Int.natCast_succ, Int.mul_add, Int.mul_one]
    rw [this]
    exact Int.mul_le_mul_of_nonneg_left (by omega) (by omega)
  obtain ⟨r, g1, g2⟩ := loopP_run (f := f) (fun s : List α × Int × Int => ∃ j : Nat, s.2.2 = j ∧ j ≤ a.length ∧ s.1.length = a.length ∧ (∀ l, j ≤ l → s.1[l]? = a[l]?) ∧ k ≤ s.2.1 ∧ s.2.1 ≤ k + W * j ∧ ∃ ks : Nat → Int, ks 0 = k ∧ ks j = s.2.1 ∧ ∀ (l : Nat), l < j → ∃ x, s.1[l]? = some x ∧ M x (ks l) (ks (l + 1)) ∧ 0 ≤ ks l ∧ ks l ≤ ks (l + 1) ∧ ks l ≤ B) (fun s => a.length - s.2.2.toNat)
    (fun r => k ≤ r.2 ∧ r.2 ≤ k + W * 1048576 ∧ r.1.length = a.length ∧ ∃ ks : Nat → Int, ks 0 = k ∧ ks a.length = r.2 ∧ ∀ (j : Nat) (hj : j < r.1.length), M r.1[j] (ks j) (ks (j + 1)) ∧ 0 ≤ ks j ∧ ks j ≤ ks (j + 1) ∧ ks j ≤ B) (by
    rintro ⟨out, m, i⟩ ⟨j, hi, hj, hl, hsame, hm1, hm2, ks, e0, e1, e2⟩
    simp only at hi hl hsame hm1 hm2 e1 e2
    subst hi
    have hWj := hWm j hj
    by_cases hlt : j < a.length
    · left
      have hlt2 : j < out.length := by omega
      have hWsj := hWs j hlt
      have hoj : out[j] = a[j] := by
        have := hsame j (Nat.le_refl _)
        rw [List.getElem?_eq_getElem hlt2, List.getElem?_eq_getElem hlt] at this
        exact Option.some.inj this
      obtain ⟨k', x', q1, q2, q3, q4⟩ := hf out m j hlt2 (by omega) (by omega) (by omega) (hoj ▸ hok _ (List.getElem_mem hlt))
      refine ⟨(out.set j x', k', ((j + 1 : Nat) : Int)), q4, ⟨j + 1, rfl, by omega, by simpa using hl, fun l hl' => ?_, by simp only; omega, ?_, fun l => if l ≤ j then ks l else k', by simp [e0], by simp only [show ¬ (j + 1 ≤ j) by omega, if_false], fun l hl' => ?_⟩, by simp only [Int.toNat_natCast]; omega⟩
      · simp only
        rw [List.getElem?_set_ne (by omega)]
        exact hsame l (by omega)
      · simp only
        have : (W : Int) * ((j + 1 : Nat) : Int) = W * j + W := by rw [Int.natCast_succ, Int.mul_add, Int.mul_one]
        omega
      · by_cases hlj : l = j
        · subst hlj
          refine ⟨x', by simp [hlt2], ?_⟩
          simp only [Nat.le_refl, if_true, show ¬ (l + 1 ≤ l) by omega, if_false, e1]
          exact ⟨q3, by omega, q1, by omega⟩
        · obtain ⟨x, p1, p2⟩ := e2 l (by omega)
          refine ⟨x, by rw [List.getElem?_set_ne (by omega)]; exact p1, ?_⟩
          simp only [show l ≤ j by omega, show l + 1 ≤ j by omega, if_true]
          exact p2
    · right
      have hja : j = a.length := by omega
      subst hja
      refine ⟨(out, m), by rw [← hl]; exact he out m, hm1, by simp only; omega, hl, ks, e0, e1, fun j hj => ?_⟩
      obtain ⟨x, p1, p2⟩ := e2 j (by simp only at hj; omega)
      simp only at hj
      rw [List.getElem?_eq_getElem hj] at p1
      injection p1 with p1
      subst p1
      exact p2) (a, k, 0) ⟨0, rfl, by omega, rfl, fun _ _ => rfl, by simp, by simp, fun _ => k, rfl, rfl, fun l h => by omega⟩
  obtain ⟨a', k'⟩ := r
  exact ⟨k', a', g1, g2⟩
theorem heldS_gen {α : Type} (a : List α) (M : α → Int → Int → Prop) (B : Int) (ks : Nat → Int) (g : Int × Int → Option ((Int × Int) ⊕ (Int ⊕ Int)))
    (hk : ∀ (j : Nat) (hj : j < a.length), M a[j] (ks j) (ks (j + 1)) ∧ 0 ≤ ks j ∧ ks j ≤ ks (j + 1) ∧ ks j ≤ B)
    (hg : ∀ (j : Nat) (hj : j < a.length) (k k' : Int), M a[j] k k' → 0 ≤ k → k ≤ k' → k ≤ B → g (k, j) = some (.inl (k', ((j + 1 : Nat) : Int))))
    (he : ∀ k, g (k, (a.length : Int)) = some (.inr (.inl k))) : loopP g (ks 0, 0) = some (.inl (ks a.length)) := by
  have key : ∀ (n k : Nat), n = a.length - k → k ≤ a.length → loopP g (ks k, (k : Int)) = some (.inl (ks a.length)) := by
    intro n
    induction n with
    | zero =>
      intro k hn hk'
      have : k = a.length := by omega
      subst this
      exact loopP_inr (he _)
    | succ n ih =>
      intro k hn hk'
      have hlt : k < a.length := by omega
      obtain ⟨q1, q2, q3, q4⟩ := hk k hlt
      rw [loopP_inl (hg k hlt _ _ q1 q2 q3 q4)]
      exact ih (k + 1) (by omega) (by omega)
  exact key a.length 0 (by omega) (by omega)
theorem getI_set {α : Type} {l : List α} {k : Nat} {x : α} (hk : k < l.length) : getI (l.set k x) (k : Int) = some x := by simp [hk]
theorem sCat_ok' {x y : ByteArray} (h : x.size + y.size ≤ 9223372036854775807) : sCat x y = some (x ++ y) := by unfold sCat; rw [if_pos h]
theorem bytesOf_size' (l : List Int) : (bytesOf l).size = l.length := by simp [bytesOf, ByteArray.size]
theorem text_loop (f : Int × ByteArray → Option ((Int × ByteArray) ⊕ ByteArray))
    (hf : ∀ (k : Int) (o : ByteArray), 0 < k → ∃ x : Int, f (k, o) = (sCat (bytesOf [x]) o).bind fun t => some (.inl (IntKind.wrap .i64 (Int.tdiv k 10), t)))
    (he : ∀ (k : Int) (o : ByteArray), k ≤ 0 → f (k, o) = some (.inr o)) (k : Int) (h0 : 0 ≤ k) (h1 : k ≤ 9223372036854775807) :
    ∃ z, loopP f (k, ⟨#[]⟩) = some z ∧ z.size ≤ 64 := by
  obtain ⟨r, g1, g2⟩ := loopP_run (f := f) (fun s : Int × ByteArray => 0 ≤ s.1 ∧ ∃ d : Nat, d ≤ 64 ∧ s.1 < 2 ^ d ∧ s.2.size + d ≤ 64) (fun s => s.1.toNat) (fun z => z.size ≤ 64) (by
    rintro ⟨k, o⟩ ⟨g0, d, gd, g1, g2⟩
    simp only at g0 g1 g2
    by_cases hk : 0 < k
    · left
      obtain ⟨x, hx⟩ := hf k o hk
      have hd : d ≠ 0 := by rintro rfl; simp at g1; omega
      have hs : (bytesOf [x]).size = 1 := by rw [bytesOf_size']; rfl
      have hdiv : Int.tdiv k 10 = k / 10 := Int.tdiv_eq_ediv_of_nonneg g0
      have hkb : k ≤ 9223372036854775807 ∨ 9223372036854775807 < k := by omega
      have hw : IntKind.wrap .i64 (Int.tdiv k 10) = k / 10 := by
        rw [hdiv]
        have h64 : (2 : Int) ^ d ≤ 2 ^ 64 := by
          have := Nat.pow_le_pow_right (show 0 < 2 by omega) gd
          exact_mod_cast this
        exact w64 (by omega) (by simp at h64; omega)
      refine ⟨(k / 10, bytesOf [x] ++ o), ?_, ⟨by simp only; omega, d - 1, by omega, ?_, ?_⟩, by simp only; omega⟩
      · rw [hx, sCat_ok' (by omega), Option.bind_some, hw]
      · simp only
        have e : (2 : Int) ^ d = 2 ^ (d - 1) * 2 := by rw [← Int.pow_succ]; congr 1; omega
        omega
      · simp only [ByteArray.size_append, hs]; omega
    · right
      exact ⟨o, he k o (by omega), by omega⟩) (k, ⟨#[]⟩) ⟨h0, 64, Nat.le_refl _, by simp; omega, by show 0 + 64 ≤ 64; omega⟩
  exact ⟨r, g1, g2⟩
end Go.OM
set_option linter.unusedVariables false
set_option linter.unusedSimpArgs false
set_option maxHeartbeats 1000000
namespace Go.OM
def GNode.le (n : Nat) (a : GNode) : Prop := (a.Name.size ≤ n) ∧ (a.Kids.length ≤ n)
theorem GNode.ext' (a b : GNode) : a = b ↔ a.Kind = b.Kind ∧ a.Num = b.Num ∧ a.Name = b.Name ∧ a.Kids = b.Kids := by cases a; cases b; simp
def GParam.le (n : Nat) (a : GParam) : Prop := (a.Name.size ≤ n)
theorem GParam.ext' (a b : GParam) : a = b ↔ a.Name = b.Name ∧ a.Typ = b.Typ := by cases a; cases b; simp
def GFn.le (n : Nat) (a : GFn) : Prop := (a.Name.size ≤ n) ∧ (a.Params.length ≤ n ∧ ∀ x ∈ a.Params, GParam.le n x)
theorem GFn.ext' (a b : GFn) : a = b ↔ a.Name = b.Name ∧ a.Params = b.Params ∧ a.Res = b.Res ∧ a.Body = b.Body ∧ a.Ret = b.Ret := by cases a; cases b; simp
def GProgram.le (n : Nat) (a : GProgram) : Prop := (a.Nodes.length ≤ n ∧ ∀ x ∈ a.Nodes, GNode.le n x) ∧ (a.Fns.length ≤ n ∧ ∀ x ∈ a.Fns, GFn.le n x)
theorem GProgram.ext' (a b : GProgram) : a = b ↔ a.Nodes = b.Nodes ∧ a.Fns = b.Fns := by cases a; cases b; simp
def Gl04Pack.le (n : Nat) (a : Gl04Pack) : Prop := (a.from_.length ≤ n ∧ ∀ x ∈ a.from_, GNode.le n x) ∧ (a.to_.length ≤ n ∧ ∀ x ∈ a.to_, GNode.le n x)
theorem Gl04Pack.ext' (a b : Gl04Pack) : a = b ↔ a.from_ = b.from_ ∧ a.to_ = b.to_ ∧ a.bad = b.bad := by cases a; cases b; simp
def Gpacker.le (n : Nat) (a : Gpacker) : Prop := (a.from_.length ≤ n ∧ ∀ x ∈ a.from_, GNode.le n x) ∧ (a.to_.length ≤ n ∧ ∀ x ∈ a.to_, GNode.le n x)
theorem Gpacker.ext' (a b : Gpacker) : a = b ↔ a.from_ = b.from_ ∧ a.to_ = b.to_ ∧ a.bad = b.bad := by cases a; cases b; simp
theorem laws_szIntS_p (a : List Int) (hw : a.length ≤ maxLen) (n : Int) (h0 : 0 ≤ n) (h1 : n ≤ 1048576) : ∃ r, laws_szIntS a n = some r ∧ r ≤ n ∧ (0 ≤ r → a.length ≤ 1048576) := by
  have hw' : a.length ≤ 9223372036854775807 := hw
  unfold laws_szIntS
  rw [w64 (by omega) (by omega)]
  split
  · exact ⟨_, rfl, by omega, fun h => by omega⟩
  · rename_i h; simp only [decide_eq_true_eq] at h; exact ⟨_, rfl, by omega, fun h => by omega⟩
theorem laws_toIntS_p (a : List Int) (h : a.length ≤ 1048576) : laws_toIntS a = some a := by
  have hl : a.length ≤ 1048576 := h
  unfold laws_toIntS
  rw [mkI_len _ _ _ (by omega) (by omega)]
  simp only [Option.bind_some]
  rw [toS_gen a _ (laws_toIntS_l1 a) (fun out k hk ho => ?_) (fun out => by simp [laws_toIntS_l1])]
  · rfl
  · simp only [laws_toIntS_l1, ofNat_lt_true hk, if_true, getI_at hk, Option.bind_some, getI_at (show k < out.length by omega), bindS_def, Int.toNat_natCast, w64_succ hk (show a.length ≤ maxLen by show _ ≤ 9223372036854775807; omega)]
theorem laws_eqIntS_p (a b : List Int) (ha : a.length ≤ 1048576) (hb : b.length ≤ 1048576) : laws_eqIntS a b = some (decide (a = b)) := by
  have hl : a.length ≤ 1048576 := ha
  unfold laws_eqIntS
  by_cases hlen : a.length = b.length
  · have hlen' : ((a.length : Int) != (b.length : Int)) = false := by simp [hlen]
    simp only [hlen', Bool.false_eq_true, if_false]
    have key := eqS_gen a b (fun x y => !(x != y)) (fun x _ y _ => by simp) hlen (laws_eqIntS_l1 a b) (fun k hk hk2 => ?_) (by simp [laws_eqIntS_l1])
    · by_cases e : a = b
      · rw [key.1 e]; simp [e]
      · rw [key.2 e]; simp [e]
    simp only [laws_eqIntS_l1, ofNat_lt_true hk, if_true, getI_at hk, getI_at hk2, Option.bind_some, w64_succ hk (show a.length ≤ maxLen by show _ ≤ 9223372036854775807; omega)]
    try (by_cases e : a[k] = b[k] <;> simp [e])
  · have hlen' : ((a.length : Int) != (b.length : Int)) = true := by simp; omega
    have hne : a ≠ b := fun e => hlen (by rw [e])
    simp [hlen', hne]
theorem laws_szNode_p (a : GNode) (hw : GNode.le maxLen a) (n : Int) (h0 : 0 ≤ n) (h1 : n ≤ 1048576) : ∃ r, laws_szNode a n = some r ∧ r ≤ n ∧ (0 ≤ r → GNode.le 1048576 a) := by
  obtain ⟨hw0, hw1⟩ := hw
  unfold laws_szNode
  have hs0 : a.Name.size ≤ 9223372036854775807 := hw0
  simp only [w64 (n := n - (a.Name.size : Int)) (by omega) (by omega)]
  by_cases hn0 : (n - (a.Name.size : Int)) < 0
  · simp only [hn0, decide_true, if_true]; exact ⟨_, rfl, by omega, fun h => by omega⟩
  simp only [hn0, decide_false, Bool.false_eq_true, if_false]
  obtain ⟨r1, q1a, q1b, q1c⟩ := laws_szIntS_p a.Kids hw1 (n - (a.Name.size : Int)) (by omega) (by omega)
  simp only [q1a, Option.bind_some]
  by_cases hn1 : r1 < 0
  · simp only [hn1, decide_true, if_true]; exact ⟨_, rfl, by omega, fun h => by omega⟩
  simp only [hn1, decide_false, Bool.false_eq_true, if_false]
  exact ⟨_, rfl, by omega, fun _ => ⟨by omega, q1c (by omega)⟩⟩
theorem laws_toNode_p (a : GNode) (h : GNode.le 1048576 a) : laws_toNode a = some a := by
  obtain ⟨h0, h1⟩ := h
  unfold laws_toNode
  simp only [laws_toIntS_p a.Kids h1, Option.bind_some]
theorem laws_eqNode_p (a b : GNode) (ha : GNode.le 1048576 a) (hb : GNode.le 1048576 b) : laws_eqNode a b = some (decide (a = b)) := by
  obtain ⟨ha0, ha1⟩ := ha
  obtain ⟨hb0, hb1⟩ := hb
  unfold laws_eqNode
  try simp only [sEq_iff, Option.bind_some, laws_eqIntS_p a.Kids b.Kids ha1 hb1]
  rw [show decide (a = b) = decide (a.Kind = b.Kind ∧ a.Num = b.Num ∧ a.Name = b.Name ∧ a.Kids = b.Kids) from by simp only [GNode.ext' a b]]
  by_cases e0 : a.Kind = b.Kind <;> by_cases e1 : a.Num = b.Num <;> by_cases e2 : a.Name = b.Name <;> by_cases e3 : a.Kids = b.Kids <;> simp [e0, e1, e2, e3]
theorem laws_szNodeS_p (a : List GNode) (hw : a.length ≤ maxLen ∧ ∀ x ∈ a, GNode.le maxLen x) (n : Int) (h0 : 0 ≤ n) (h1 : n ≤ 1048576) : ∃ r, laws_szNodeS a n = some r ∧ r ≤ n ∧ (0 ≤ r → a.length ≤ 1048576 ∧ ∀ x ∈ a, GNode.le 1048576 x) := by
  have hw' : a.length ≤ 9223372036854775807 := hw.1
  unfold laws_szNodeS
  rw [w64 (by omega) (by omega)]
  split
  · exact ⟨_, rfl, by omega, fun h => by omega⟩
  · rename_i h
    simp only [decide_eq_true_eq] at h
    have hf : ∀ (m : Int) (k : Nat) (g0 : 0 ≤ m) (g1 : m ≤ 1048576) (hk : k < a.length), ∃ r, r ≤ m ∧ (0 ≤ r → (fun x : GNode => GNode.le 1048576 x) a[k]) ∧ laws_szNodeS_l1 a (m, k) = some (if r < 0 then .inr (.inr (-1)) else .inl (r, ((k + 1 : Nat) : Int))) := by
      intro m k g0 g1 hk
      obtain ⟨r, r1, r2, r3⟩ := laws_szNode_p a[k] (hw.2 _ (List.getElem_mem hk)) m g0 g1
      refine ⟨r, r2, r3, ?_⟩
      simp only [laws_szNodeS_l1, ofNat_lt_true hk, if_true, getI_at hk, Option.bind_some, r1, w64_succ hk hw.1]
      by_cases hr : r < 0 <;> simp [hr]
    obtain ⟨j, hj, hj2⟩ := szS_gen _ a (laws_szNodeS_l1 a) 1048576 hf (fun m => by simp [laws_szNodeS_l1]) (n - a.length) (by omega) (by omega)
    rcases hj2 with rfl | ⟨m, rfl, q1, q2, q3⟩
    · exact ⟨-1, by rw [hj]; rfl, by omega, fun h => by omega⟩
    · exact ⟨m, by rw [hj]; rfl, by omega, fun _ => ⟨by omega, q3⟩⟩
theorem laws_toNodeS_p (a : List GNode) (h : a.length ≤ 1048576 ∧ ∀ x ∈ a, GNode.le 1048576 x) : laws_toNodeS a = some a := by
  have hl : a.length ≤ 1048576 := h.1
  unfold laws_toNodeS
  rw [mkI_len _ _ _ (by omega) (by omega)]
  simp only [Option.bind_some]
  rw [toS_gen a _ (laws_toNodeS_l1 a) (fun out k hk ho => ?_) (fun out => by simp [laws_toNodeS_l1])]
  · rfl
  · simp only [laws_toNodeS_l1, ofNat_lt_true hk, if_true, getI_at hk, Option.bind_some, laws_toNode_p a[k] (h.2 _ (List.getElem_mem hk)), getI_at (show k < out.length by omega), bindS_def, Int.toNat_natCast, w64_succ hk (show a.length ≤ maxLen by show _ ≤ 9223372036854775807; omega)]
theorem laws_eqNodeS_p (a b : List GNode) (ha : a.length ≤ 1048576 ∧ ∀ x ∈ a, GNode.le 1048576 x) (hb : b.length ≤ 1048576 ∧ ∀ x ∈ b, GNode.le 1048576 x) : laws_eqNodeS a b = some (decide (a = b)) := by
  have hl : a.length ≤ 1048576 := ha.1
  unfold laws_eqNodeS
  by_cases hlen : a.length = b.length
  · have hlen' : ((a.length : Int) != (b.length : Int)) = false := by simp [hlen]
    simp only [hlen', Bool.false_eq_true, if_false]
    have key := eqS_gen a b (fun x y => decide (x = y)) (fun x _ y _ => by simp) hlen (laws_eqNodeS_l1 a b) (fun k hk hk2 => ?_) (by simp [laws_eqNodeS_l1])
    · by_cases e : a = b
      · rw [key.1 e]; simp [e]
      · rw [key.2 e]; simp [e]
    simp only [laws_eqNodeS_l1, ofNat_lt_true hk, if_true, getI_at hk, getI_at hk2, Option.bind_some, laws_eqNode_p a[k] b[k] (ha.2 _ (List.getElem_mem hk)) (hb.2 _ (List.getElem_mem hk2)), w64_succ hk (show a.length ≤ maxLen by show _ ≤ 9223372036854775807; omega)]
    try (by_cases e : a[k] = b[k] <;> simp [e])
  · have hlen' : ((a.length : Int) != (b.length : Int)) = true := by simp; omega
    have hne : a ≠ b := fun e => hlen (by rw [e])
    simp [hlen', hne]
theorem laws_szParam_p (a : GParam) (hw : GParam.le maxLen a) (n : Int) (h0 : 0 ≤ n) (h1 : n ≤ 1048576) : ∃ r, laws_szParam a n = some r ∧ r ≤ n ∧ (0 ≤ r → GParam.le 1048576 a) := by
  have hw0 := hw; unfold GParam.le at hw0
  unfold laws_szParam
  have hs0 : a.Name.size ≤ 9223372036854775807 := hw0
  simp only [w64 (n := n - (a.Name.size : Int)) (by omega) (by omega)]
  by_cases hn0 : (n - (a.Name.size : Int)) < 0
  · simp only [hn0, decide_true, if_true]; exact ⟨_, rfl, by omega, fun h => by omega⟩
  simp only [hn0, decide_false, Bool.false_eq_true, if_false]
  exact ⟨_, rfl, by omega, fun _ => (by unfold GParam.le; first | omega | exact trivial)⟩
theorem laws_toParam_p (a : GParam) (h : GParam.le 1048576 a) : laws_toParam a = some a := by
  have h0 := h; unfold GParam.le at h0
  unfold laws_toParam
  rfl
theorem laws_eqParam_p (a b : GParam) (ha : GParam.le 1048576 a) (hb : GParam.le 1048576 b) : laws_eqParam a b = some (decide (a = b)) := by
  have ha0 := ha; have hb0 := hb; unfold GParam.le at ha0 hb0
  unfold laws_eqParam
  try simp only [sEq_iff, Option.bind_some]
  rw [show decide (a = b) = decide (a.Name = b.Name ∧ a.Typ = b.Typ) from by simp only [GParam.ext' a b]]
  by_cases e0 : a.Name = b.Name <;> by_cases e1 : a.Typ = b.Typ <;> simp [e0, e1]
theorem laws_szParamS_p (a : List GParam) (hw : a.length ≤ maxLen ∧ ∀ x ∈ a, GParam.le maxLen x) (n : Int) (h0 : 0 ≤ n) (h1 : n ≤ 1048576) : ∃ r, laws_szParamS a n = some r ∧ r ≤ n ∧ (0 ≤ r → a.length ≤ 1048576 ∧ ∀ x ∈ a, GParam.le 1048576 x) := by
  have hw' : a.length ≤ 9223372036854775807 := hw.1
  unfold laws_szParamS
  rw [w64 (by omega) (by omega)]
  split
  · exact ⟨_, rfl, by omega, fun h => by omega⟩
  · rename_i h
    simp only [decide_eq_true_eq] at h
    have hf : ∀ (m : Int) (k : Nat) (g0 : 0 ≤ m) (g1 : m ≤ 1048576) (hk : k < a.length), ∃ r, r ≤ m ∧ (0 ≤ r → (fun x : GParam => GParam.le 1048576 x) a[k]) ∧ laws_szParamS_l1 a (m, k) = some (if r < 0 then .inr (.inr (-1)) else .inl (r, ((k + 1 : Nat) : Int))) := by
      intro m k g0 g1 hk
      obtain ⟨r, r1, r2, r3⟩ := laws_szParam_p a[k] (hw.2 _ (List.getElem_mem hk)) m g0 g1
      refine ⟨r, r2, r3, ?_⟩
      simp only [laws_szParamS_l1, ofNat_lt_true hk, if_true, getI_at hk, Option.bind_some, r1, w64_succ hk hw.1]
      by_cases hr : r < 0 <;> simp [hr]
    obtain ⟨j, hj, hj2⟩ := szS_gen _ a (laws_szParamS_l1 a) 1048576 hf (fun m => by simp [laws_szParamS_l1]) (n - a.length) (by omega) (by omega)
    rcases hj2 with rfl | ⟨m, rfl, q1, q2, q3⟩
    · exact ⟨-1, by rw [hj]; rfl, by omega, fun h => by omega⟩
    · exact ⟨m, by rw [hj]; rfl, by omega, fun _ => ⟨by omega, q3⟩⟩
theorem laws_toParamS_p (a : List GParam) (h : a.length ≤ 1048576 ∧ ∀ x ∈ a, GParam.le 1048576 x) : laws_toParamS a = some a := by
  have hl : a.length ≤ 1048576 := h.1
  unfold laws_toParamS
  rw [mkI_len _ _ _ (by omega) (by omega)]
  simp only [Option.bind_some]
  rw [toS_gen a _ (laws_toParamS_l1 a) (fun out k hk ho => ?_) (fun out => by simp [laws_toParamS_l1])]
  · rfl
  · simp only [laws_toParamS_l1, ofNat_lt_true hk, if_true, getI_at hk, Option.bind_some, laws_toParam_p a[k] (h.2 _ (List.getElem_mem hk)), getI_at (show k < out.length by omega), bindS_def, Int.toNat_natCast, w64_succ hk (show a.length ≤ maxLen by show _ ≤ 9223372036854775807; omega)]
theorem laws_eqParamS_p (a b : List GParam) (ha : a.length ≤ 1048576 ∧ ∀ x ∈ a, GParam.le 1048576 x) (hb : b.length ≤ 1048576 ∧ ∀ x ∈ b, GParam.le 1048576 x) : laws_eqParamS a b = some (decide (a = b)) := by
  have hl : a.length ≤ 1048576 := ha.1
  unfold laws_eqParamS
  by_cases hlen : a.length = b.length
  · have hlen' : ((a.length : Int) != (b.length : Int)) = false := by simp [hlen]
    simp only [hlen', Bool.false_eq_true, if_false]
    have key := eqS_gen a b (fun x y => decide (x = y)) (fun x _ y _ => by simp) hlen (laws_eqParamS_l1 a b) (fun k hk hk2 => ?_) (by simp [laws_eqParamS_l1])
    · by_cases e : a = b
      · rw [key.1 e]; simp [e]
      · rw [key.2 e]; simp [e]
    simp only [laws_eqParamS_l1, ofNat_lt_true hk, if_true, getI_at hk, getI_at hk2, Option.bind_some, laws_eqParam_p a[k] b[k] (ha.2 _ (List.getElem_mem hk)) (hb.2 _ (List.getElem_mem hk2)), w64_succ hk (show a.length ≤ maxLen by show _ ≤ 9223372036854775807; omega)]
    try (by_cases e : a[k] = b[k] <;> simp [e])
  · have hlen' : ((a.length : Int) != (b.length : Int)) = true := by simp; omega
    have hne : a ≠ b := fun e => hlen (by rw [e])
    simp [hlen', hne]
theorem laws_szFn_p (a : GFn) (hw : GFn.le maxLen a) (n : Int) (h0 : 0 ≤ n) (h1 : n ≤ 1048576) : ∃ r, laws_szFn a n = some r ∧ r ≤ n ∧ (0 ≤ r → GFn.le 1048576 a) := by
  obtain ⟨hw0, hw1⟩ := hw
  unfold laws_szFn
  have hs0 : a.Name.size ≤ 9223372036854775807 := hw0
  simp only [w64 (n := n - (a.Name.size : Int)) (by omega) (by omega)]
  by_cases hn0 : (n - (a.Name.size : Int)) < 0
  · simp only [hn0, decide_true, if_true]; exact ⟨_, rfl, by omega, fun h => by omega⟩
  simp only [hn0, decide_false, Bool.false_eq_true, if_false]
  obtain ⟨r1, q1a, q1b, q1c⟩ := laws_szParamS_p a.Params hw1 (n - (a.Name.size : Int)) (by omega) (by omega)
  simp only [q1a, Option.bind_some]
  by_cases hn1 : r1 < 0
  · simp only [hn1, decide_true, if_true]; exact ⟨_, rfl, by omega, fun h => by omega⟩
  simp only [hn1, decide_false, Bool.false_eq_true, if_false]
  exact ⟨_, rfl, by omega, fun _ => ⟨by omega, q1c (by omega)⟩⟩
theorem laws_toFn_p (a : GFn) (h : GFn.le 1048576 a) : laws_toFn a = some a := by
  obtain ⟨h0, h1⟩ := h
  unfold laws_toFn
  simp only [laws_toParamS_p a.Params h1, Option.bind_some]
theorem laws_eqFn_p (a b : GFn) (ha : GFn.le 1048576 a) (hb : GFn.le 1048576 b) : laws_eqFn a b = some (decide (a = b)) := by
  obtain ⟨ha0, ha1⟩ := ha
  obtain ⟨hb0, hb1⟩ := hb
  unfold laws_eqFn
  try simp only [sEq_iff, Option.bind_some, laws_eqParamS_p a.Params b.Params ha1 hb1]
  rw [show decide (a = b) = decide (a.Name = b.Name ∧ a.Params = b.Params ∧ a.Res = b.Res ∧ a.Body = b.Body ∧ a.Ret = b.Ret) from by simp only [GFn.ext' a b]]
  by_cases e0 : a.Name = b.Name <;> by_cases e1 : a.Params = b.Params <;> by_cases e2 : a.Res = b.Res <;> by_cases e3 : a.Body = b.Body <;> by_cases e4 : a.Ret = b.Ret <;> simp [e0, e1, e2, e3, e4]
theorem laws_szFnS_p (a : List GFn) (hw : a.length ≤ maxLen ∧ ∀ x ∈ a, GFn.le maxLen x) (n : Int) (h0 : 0 ≤ n) (h1 : n ≤ 1048576) : ∃ r, laws_szFnS a n = some r ∧ r ≤ n ∧ (0 ≤ r → a.length ≤ 1048576 ∧ ∀ x ∈ a, GFn.le 1048576 x) := by
  have hw' : a.length ≤ 9223372036854775807 := hw.1
  unfold laws_szFnS
  rw [w64 (by omega) (by omega)]
  split
  · exact ⟨_, rfl, by omega, fun h => by omega⟩
  · rename_i h
    simp only [decide_eq_true_eq] at h
    have hf : ∀ (m : Int) (k : Nat) (g0 : 0 ≤ m) (g1 : m ≤ 1048576) (hk : k < a.length), ∃ r, r ≤ m ∧ (0 ≤ r → (fun x : GFn => GFn.le 1048576 x) a[k]) ∧ laws_szFnS_l1 a (m, k) = some (if r < 0 then .inr (.inr (-1)) else .inl (r, ((k + 1 : Nat) : Int))) := by
      intro m k g0 g1 hk
      obtain ⟨r, r1, r2, r3⟩ := laws_szFn_p a[k] (hw.2 _ (List.getElem_mem hk)) m g0 g1
      refine ⟨r, r2, r3, ?_⟩
      simp only [laws_szFnS_l1, ofNat_lt_true hk, if_true, getI_at hk, Option.bind_some, r1, w64_succ hk hw.1]
      by_cases hr : r < 0 <;> simp [hr]
    obtain ⟨j, hj, hj2⟩ := szS_gen _ a (laws_szFnS_l1 a) 1048576 hf (fun m => by simp [laws_szFnS_l1]) (n - a.length) (by omega) (by omega)
    rcases hj2 with rfl | ⟨m, rfl, q1, q2, q3⟩
    · exact ⟨-1, by rw [hj]; rfl, by omega, fun h => by omega⟩
    · exact ⟨m, by rw [hj]; rfl, by omega, fun _ => ⟨by omega, q3⟩⟩
theorem laws_toFnS_p (a : List GFn) (h : a.length ≤ 1048576 ∧ ∀ x ∈ a, GFn.le 1048576 x) : laws_toFnS a = some a := by
  have hl : a.length ≤ 1048576 := h.1
  unfold laws_toFnS
  rw [mkI_len _ _ _ (by omega) (by omega)]
  simp only [Option.bind_some]
  rw [toS_gen a _ (laws_toFnS_l1 a) (fun out k hk ho => ?_) (fun out => by simp [laws_toFnS_l1])]
  · rfl
  · simp only [laws_toFnS_l1, ofNat_lt_true hk, if_true, getI_at hk, Option.bind_some, laws_toFn_p a[k] (h.2 _ (List.getElem_mem hk)), getI_at (show k < out.length by omega), bindS_def, Int.toNat_natCast, w64_succ hk (show a.length ≤ maxLen by show _ ≤ 9223372036854775807; omega)]
theorem laws_eqFnS_p (a b : List GFn) (ha : a.length ≤ 1048576 ∧ ∀ x ∈ a, GFn.le 1048576 x) (hb : b.length ≤ 1048576 ∧ ∀ x ∈ b, GFn.le 1048576 x) : laws_eqFnS a b = some (decide (a = b)) := by
  have hl : a.length ≤ 1048576 := ha.1
  unfold laws_eqFnS
  by_cases hlen : a.length = b.length
  · have hlen' : ((a.length : Int) != (b.length : Int)) = false := by simp [hlen]
    simp only [hlen', Bool.false_eq_true, if_false]
    have key := eqS_gen a b (fun x y => decide (x = y)) (fun x _ y _ => by simp) hlen (laws_eqFnS_l1 a b) (fun k hk hk2 => ?_) (by simp [laws_eqFnS_l1])
    · by_cases e : a = b
      · rw [key.1 e]; simp [e]
      · rw [key.2 e]; simp [e]
    simp only [laws_eqFnS_l1, ofNat_lt_true hk, if_true, getI_at hk, getI_at hk2, Option.bind_some, laws_eqFn_p a[k] b[k] (ha.2 _ (List.getElem_mem hk)) (hb.2 _ (List.getElem_mem hk2)), w64_succ hk (show a.length ≤ maxLen by show _ ≤ 9223372036854775807; omega)]
    try (by_cases e : a[k] = b[k] <;> simp [e])
  · have hlen' : ((a.length : Int) != (b.length : Int)) = true := by simp; omega
    have hne : a ≠ b := fun e => hlen (by rw [e])
    simp [hlen', hne]
theorem laws_szProgram_p (a : GProgram) (hw : GProgram.le maxLen a) (n : Int) (h0 : 0 ≤ n) (h1 : n ≤ 1048576) : ∃ r, laws_szProgram a n = some r ∧ r ≤ n ∧ (0 ≤ r → GProgram.le 1048576 a) := by
  obtain ⟨hw0, hw1⟩ := hw
  unfold laws_szProgram
  obtain ⟨r0, q0a, q0b, q0c⟩ := laws_szNodeS_p a.Nodes hw0 n (by omega) (by omega)
  simp only [q0a, Option.bind_some]
  by_cases hn0 : r0 < 0
  · simp only [hn0, decide_true, if_true]; exact ⟨_, rfl, by omega, fun h => by omega⟩
  simp only [hn0, decide_false, Bool.false_eq_true, if_false]
  obtain ⟨r1, q1a, q1b, q1c⟩ := laws_szFnS_p a.Fns hw1 r0 (by omega) (by omega)
  simp only [q1a, Option.bind_some]
  by_cases hn1 : r1 < 0
  · simp only [hn1, decide_true, if_true]; exact ⟨_, rfl, by omega, fun h => by omega⟩
  simp only [hn1, decide_false, Bool.false_eq_true, if_false]
  exact ⟨_, rfl, by omega, fun _ => ⟨q0c (by omega), q1c (by omega)⟩⟩
theorem laws_toProgram_p (a : GProgram) (h : GProgram.le 1048576 a) : laws_toProgram a = some a := by
  obtain ⟨h0, h1⟩ := h
  unfold laws_toProgram
  simp only [laws_toNodeS_p a.Nodes h0, laws_toFnS_p a.Fns h1, Option.bind_some]
theorem laws_eqProgram_p (a b : GProgram) (ha : GProgram.le 1048576 a) (hb : GProgram.le 1048576 b) : laws_eqProgram a b = some (decide (a = b)) := by
  obtain ⟨ha0, ha1⟩ := ha
  obtain ⟨hb0, hb1⟩ := hb
  unfold laws_eqProgram
  try simp only [sEq_iff, Option.bind_some, laws_eqNodeS_p a.Nodes b.Nodes ha0 hb0, laws_eqFnS_p a.Fns b.Fns ha1 hb1]
  rw [show decide (a = b) = decide (a.Nodes = b.Nodes ∧ a.Fns = b.Fns) from by simp only [GProgram.ext' a b]]
  by_cases e0 : a.Nodes = b.Nodes <;> by_cases e1 : a.Fns = b.Fns <;> simp [e0, e1]
theorem laws_markText_p (k : Int) (h0 : 0 ≤ k) (h1 : k ≤ 9223372036854775807) : ∃ z, laws_markText k = some z := by
  unfold laws_markText
  by_cases hk : k ≤ 0
  · simp [hk]
  · simp only [hk, decide_false, Bool.false_eq_true, if_false]
    obtain ⟨z, h2, h3⟩ := text_loop laws_markText_l1 (fun k o hk => ⟨IntKind.wrap .u8 (IntKind.wrap .i64 (48 + (Int.tmod k 10))), by simp only [laws_markText_l1, gt_iff_lt, hk, decide_true, if_true]⟩) (fun k o hk => by simp only [laws_markText_l1, gt_iff_lt, show ¬ 0 < k by omega, decide_false, Bool.false_eq_true, if_false]) k h0 h1
    rw [h2]
    have hs : (⟨#[109]⟩ : ByteArray).size = 1 := rfl
    simp only [Option.bind_some]
    rw [sCat_ok' (by rw [hs]; omega)]
    exact ⟨_, rfl⟩
theorem laws_markIntS_p (a : List Int) (ha : a.length ≤ 1048576) (k : Int) (h0 : 0 ≤ k) (h1 : k + 1048576 ≤ 4611686018427387904) : ∃ k' a', laws_markIntS a k = some (k', a') ∧ k ≤ k' ∧ k' ≤ k + 1048576 ∧ laws_heldIntS a' k = some k' := by
  have hlen : a.length ≤ 1048576 := ha
  have hM : ∃ k' a', loopP laws_markIntS_l1 (a, k, 0) = some (a', k') ∧ k ≤ k' ∧ k' ≤ k + 1 * 1048576 ∧ a'.length = a.length ∧ ∃ ks : Nat → Int, ks 0 = k ∧ ks a.length = k' ∧ ∀ (j : Nat) (hj : j < a'.length), (fun (x : Int) (k k' : Int) => x = k ∧ k' = (k + 1)) a'[j] (ks j) (ks (j + 1)) ∧ 0 ≤ ks j ∧ ks j ≤ ks (j + 1) ∧ ks j ≤ 4611686018427387904 := by
    refine markS_gen (fun x : Int => True) (fun (x : Int) (k k' : Int) => x = k ∧ k' = (k + 1)) 1 4611686018427387904 laws_markIntS_l1 (fun out k i hi hlen h0 h1 hok => ?_) (fun out k => by simp [laws_markIntS_l1]) a hlen (fun x hx => trivial) k h0 (by omega)
    refine ⟨(k + 1), k, by omega, by omega, ?_, ?_⟩
    · simp []
    · simp (disch := omega) only [laws_markIntS_l1, ofNat_lt_true hi, if_true, getI_at, getI_set, Option.bind_some, bindS_def, Int.toNat_natCast, List.length_set, List.set_set, w64, Int.natCast_add, Int.natCast_one]
  obtain ⟨k', a', h2, h3, h4, h5, ks, e0, e1, h6⟩ := hM
  refine ⟨k', a', by unfold laws_markIntS; rw [h2]; rfl, h3, by omega, ?_⟩
  have hg : loopP (laws_heldIntS_l1 a') (ks 0, 0) = some (.inl (ks a'.length)) := by
    refine heldS_gen a' (fun (x : Int) (k k' : Int) => x = k ∧ k' = (k + 1)) 4611686018427387904 ks (laws_heldIntS_l1 a') h6 (fun j hj k k' hm h0 hk h1 => ?_) (fun k => by simp [laws_heldIntS_l1])
    have hjl : a'.length ≤ 1048576 := by omega
    obtain ⟨y0, yk⟩ := hm
    subst yk
    have hw1 : IntKind.wrap .i64 ((j : Int) + 1) = (j : Int) + 1 := w64 (by omega) (by omega)
    simp only [laws_heldIntS_l1, ofNat_lt_true hj, getI_at hj, hw1, if_true, Option.bind_some]
    simp (disch := omega) [w64, sEq_iff, y0]
  unfold laws_heldIntS
  rw [e0, h5, e1] at hg
  rw [hg]
  rfl
theorem laws_markNodeS_p (a : List GNode) (ha : a.length ≤ 1048576 ∧ ∀ x ∈ a, GNode.le 1048576 x) (k : Int) (h0 : 0 ≤ k) (h1 : k + 1099514773504 ≤ 4611686018427387904) : ∃ k' a', laws_markNodeS a k = some (k', a') ∧ k ≤ k' ∧ k' ≤ k + 1099514773504 ∧ laws_heldNodeS a' k = some k' := by
  have hlen : a.length ≤ 1048576 := ha.1
  have hM : ∃ k' a', loopP laws_markNodeS_l1 (a, k, 0) = some (a', k') ∧ k ≤ k' ∧ k' ≤ k + 1048579 * 1048576 ∧ a'.length = a.length ∧ ∃ ks : Nat → Int, ks 0 = k ∧ ks a.length = k' ∧ ∀ (j : Nat) (hj : j < a'.length), (fun (x : GNode) (k k' : Int) => x.Kind = k ∧ x.Num = (k + 1) ∧ laws_markText ((k + 1) + 1) = some x.Name ∧ ∃ q3, laws_heldIntS x.Kids (((k + 1) + 1) + 1) = some q3 ∧ (((k + 1) + 1) + 1) ≤ q3 ∧ k' = q3) a'[j] (ks j) (ks (j + 1)) ∧ 0 ≤ ks j ∧ ks j ≤ ks (j + 1) ∧ ks j ≤ 4611686018427387904 := by
    refine markS_gen (fun x : GNode => GNode.le 1048576 x) (fun (x : GNode) (k k' : Int) => x.Kind = k ∧ x.Num = (k + 1) ∧ laws_markText ((k + 1) + 1) = some x.Name ∧ ∃ q3, laws_heldIntS x.Kids (((k + 1) + 1) + 1) = some q3 ∧ (((k + 1) + 1) + 1) ≤ q3 ∧ k' = q3) 1048579 4611686018427387904 laws_markNodeS_l1 (fun out k i hi hlen h0 h1 hok => ?_) (fun out k => by simp [laws_markNodeS_l1]) a hlen (fun x hx => ha.2 x hx) k h0 (by omega)
    obtain ⟨hok_Name, hok_Kids⟩ := hok
    obtain ⟨z2, hz2⟩ := laws_markText_p ((k + 1) + 1) (by omega) (by omega)
    obtain ⟨q3, b3, mm3, l3, u3, hh3⟩ := laws_markIntS_p out[i].Kids hok_Kids (((k + 1) + 1) + 1) (by omega) (by omega)
    refine ⟨q3, (⟨k, (k + 1), z2, b3⟩ : GNode), by omega, by omega, ?_, ?_⟩
    · simp [hz2, hh3]; try omega
    · simp (disch := omega) only [laws_markNodeS_l1, ofNat_lt_true hi, if_true, getI_at, getI_set, Option.bind_some, bindS_def, Int.toNat_natCast, List.length_set, List.set_set, w64, hz2, mm3, Int.natCast_add, Int.natCast_one]
  obtain ⟨k', a', h2, h3, h4, h5, ks, e0, e1, h6⟩ := hM
  refine ⟨k', a', by unfold laws_markNodeS; rw [h2]; rfl, h3, by omega, ?_⟩
  have hg : loopP (laws_heldNodeS_l1 a') (ks 0, 0) = some (.inl (ks a'.length)) := by
    refine heldS_gen a' (fun (x : GNode) (k k' : Int) => x.Kind = k ∧ x.Num = (k + 1) ∧ laws_markText ((k + 1) + 1) = some x.Name ∧ ∃ q3, laws_heldIntS x.Kids (((k + 1) + 1) + 1) = some q3 ∧ (((k + 1) + 1) + 1) ≤ q3 ∧ k' = q3) 4611686018427387904 ks (laws_heldNodeS_l1 a') h6 (fun j hj k k' hm h0 hk h1 => ?_) (fun k => by simp [laws_heldNodeS_l1])
    have hjl : a'.length ≤ 1048576 := by omega
    obtain ⟨y0, ⟨y1, ⟨y2, ⟨q3, y3, yy3, yk⟩⟩⟩⟩ := hm
    subst yk
    have hw1 : IntKind.wrap .i64 ((j : Int) + 1) = (j : Int) + 1 := w64 (by omega) (by omega)
    simp only [laws_heldNodeS_l1, ofNat_lt_true hj, getI_at hj, hw1, if_true, Option.bind_some]
    simp (disch := omega) [w64, sEq_iff, y0, y1, y2, y3, show ¬ k' < 0 by omega, show 0 ≤ k' by omega]
  unfold laws_heldNodeS
  rw [e0, h5, e1] at hg
  rw [hg]
  rfl
theorem laws_markParamS_p (a : List GParam) (ha : a.length ≤ 1048576 ∧ ∀ x ∈ a, GParam.le 1048576 x) (k : Int) (h0 : 0 ≤ k) (h1 : k + 2097152 ≤ 4611686018427387904) : ∃ k' a', laws_markParamS a k = some (k', a') ∧ k ≤ k' ∧ k' ≤ k + 2097152 ∧ laws_heldParamS a' k = some k' := by
  have hlen : a.length ≤ 1048576 := ha.1
  have hM : ∃ k' a', loopP laws_markParamS_l1 (a, k, 0) = some (a', k') ∧ k ≤ k' ∧ k' ≤ k + 2 * 1048576 ∧ a'.length = a.length ∧ ∃ ks : Nat → Int, ks 0 = k ∧ ks a.length = k' ∧ ∀ (j : Nat) (hj : j < a'.length), (fun (x : GParam) (k k' : Int) => laws_markText k = some x.Name ∧ x.Typ = (k + 1) ∧ k' = ((k + 1) + 1)) a'[j] (ks j) (ks (j + 1)) ∧ 0 ≤ ks j ∧ ks j ≤ ks (j + 1) ∧ ks j ≤ 4611686018427387904 := by
    refine markS_gen (fun x : GParam => GParam.le 1048576 x) (fun (x : GParam) (k k' : Int) => laws_markText k = some x.Name ∧ x.Typ = (k + 1) ∧ k' = ((k + 1) + 1)) 2 4611686018427387904 laws_markParamS_l1 (fun out k i hi hlen h0 h1 hok => ?_) (fun out k => by simp [laws_markParamS_l1]) a hlen (fun x hx => ha.2 x hx) k h0 (by omega)
    have hok_Name := hok; simp only [GParam.le] at hok_Name
    obtain ⟨z0, hz0⟩ := laws_markText_p k (by omega) (by omega)
    refine ⟨((k + 1) + 1), (⟨z0, (k + 1)⟩ : GParam), by omega, by omega, ?_, ?_⟩
    · simp [hz0]
    · simp (disch := omega) only [laws_markParamS_l1, ofNat_lt_true hi, if_true, getI_at, getI_set, Option.bind_some, bindS_def, Int.toNat_natCast, List.length_set, List.set_set, w64, hz0, Int.natCast_add, Int.natCast_one]
  obtain ⟨k', a', h2, h3, h4, h5, ks, e0, e1, h6⟩ := hM
  refine ⟨k', a', by unfold laws_markParamS; rw [h2]; rfl, h3, by omega, ?_⟩
  have hg : loopP (laws_heldParamS_l1 a') (ks 0, 0) = some (.inl (ks a'.length)) := by
    refine heldS_gen a' (fun (x : GParam) (k k' : Int) => laws_markText k = some x.Name ∧ x.Typ = (k + 1) ∧ k' = ((k + 1) + 1)) 4611686018427387904 ks (laws_heldParamS_l1 a') h6 (fun j hj k k' hm h0 hk h1 => ?_) (fun k => by simp [laws_heldParamS_l1])
    have hjl : a'.length ≤ 1048576 := by omega
    obtain ⟨y0, ⟨y1, yk⟩⟩ := hm
    subst yk
    have hw1 : IntKind.wrap .i64 ((j : Int) + 1) = (j : Int) + 1 := w64 (by omega) (by omega)
    simp only [laws_heldParamS_l1, ofNat_lt_true hj, getI_at hj, hw1, if_true, Option.bind_some]
    simp (disch := omega) [w64, sEq_iff, y0, y1]
  unfold laws_heldParamS
  rw [e0, h5, e1] at hg
  rw [hg]
  rfl
theorem laws_markFnS_p (a : List GFn) (ha : a.length ≤ 1048576 ∧ ∀ x ∈ a, GFn.le 1048576 x) (k : Int) (h0 : 0 ≤ k) (h1 : k + 2199027449856 ≤ 4611686018427387904) : ∃ k' a', laws_markFnS a k = some (k', a') ∧ k ≤ k' ∧ k' ≤ k + 2199027449856 ∧ laws_heldFnS a' k = some k' := by
  have hlen : a.length ≤ 1048576 := ha.1
  have hM : ∃ k' a', loopP laws_markFnS_l1 (a, k, 0) = some (a', k') ∧ k ≤ k' ∧ k' ≤ k + 2097156 * 1048576 ∧ a'.length = a.length ∧ ∃ ks : Nat → Int, ks 0 = k ∧ ks a.length = k' ∧ ∀ (j : Nat) (hj : j < a'.length), (fun (x : GFn) (k k' : Int) => laws_markText k = some x.Name ∧ ∃ q1, laws_heldParamS x.Params (k + 1) = some q1 ∧ (k + 1) ≤ q1 ∧ x.Res = q1 ∧ x.Body = (q1 + 1) ∧ x.Ret = ((q1 + 1) + 1) ∧ k' = (((q1 + 1) + 1) + 1) ∧ k' ≤ 4611686018427387904) a'[j] (ks j) (ks (j + 1)) ∧ 0 ≤ ks j ∧ ks j ≤ ks (j + 1) ∧ ks j ≤ 4611686018427387904 := by
    refine markS_gen (fun x : GFn => GFn.le 1048576 x) (fun (x : GFn) (k k' : Int) => laws_markText k = some x.Name ∧ ∃ q1, laws_heldParamS x.Params (k + 1) = some q1 ∧ (k + 1) ≤ q1 ∧ x.Res = q1 ∧ x.Body = (q1 + 1) ∧ x.Ret = ((q1 + 1) + 1) ∧ k' = (((q1 + 1) + 1) + 1) ∧ k' ≤ 4611686018427387904) 2097156 4611686018427387904 laws_markFnS_l1 (fun out k i hi hlen h0 h1 hok => ?_) (fun out k => by simp [laws_markFnS_l1]) a hlen (fun x hx => ha.2 x hx) k h0 (by omega)
    obtain ⟨hok_Name, hok_Params⟩ := hok
    obtain ⟨z0, hz0⟩ := laws_markText_p k (by omega) (by omega)
    obtain ⟨q1, b1, mm1, l1, u1, hh1⟩ := laws_markParamS_p out[i].Params hok_Params (k + 1) (by omega) (by omega)
    refine ⟨(((q1 + 1) + 1) + 1), (⟨z0, b1, q1, (q1 + 1), ((q1 + 1) + 1)⟩ : GFn), by omega, by omega, ?_, ?_⟩
    · simp [hz0, hh1]; try omega
    · simp (disch := omega) only [laws_markFnS_l1, ofNat_lt_true hi, if_true, getI_at, getI_set, Option.bind_some, bindS_def, Int.toNat_natCast, List.length_set, List.set_set, w64, hz0, mm1, Int.natCast_add, Int.natCast_one]
  obtain ⟨k', a', h2, h3, h4, h5, ks, e0, e1, h6⟩ := hM
  refine ⟨k', a', by unfold laws_markFnS; rw [h2]; rfl, h3, by omega, ?_⟩
  have hg : loopP (laws_heldFnS_l1 a') (ks 0, 0) = some (.inl (ks a'.length)) := by
    refine heldS_gen a' (fun (x : GFn) (k k' : Int) => laws_markText k = some x.Name ∧ ∃ q1, laws_heldParamS x.Params (k + 1) = some q1 ∧ (k + 1) ≤ q1 ∧ x.Res = q1 ∧ x.Body = (q1 + 1) ∧ x.Ret = ((q1 + 1) + 1) ∧ k' = (((q1 + 1) + 1) + 1) ∧ k' ≤ 4611686018427387904) 4611686018427387904 ks (laws_heldFnS_l1 a') h6 (fun j hj k k' hm h0 hk h1 => ?_) (fun k => by simp [laws_heldFnS_l1])
    have hjl : a'.length ≤ 1048576 := by omega
    obtain ⟨y0, ⟨q1, y1, yy1, ⟨y2, ⟨y3, ⟨y4, ⟨yk, ykb⟩⟩⟩⟩⟩⟩ := hm
    subst yk
    have hw1 : IntKind.wrap .i64 ((j : Int) + 1) = (j : Int) + 1 := w64 (by omega) (by omega)
    simp only [laws_heldFnS_l1, ofNat_lt_true hj, getI_at hj, hw1, if_true, Option.bind_some]
    simp (disch := omega) [w64, sEq_iff, y0, y1, show ¬ q1 < 0 by omega, show 0 ≤ q1 by omega, y2, y3, y4]
  unfold laws_heldFnS
  rw [e0, h5, e1] at hg
  rw [hg]
  rfl
theorem laws_markProgram_p (a : GProgram) (ha : GProgram.le 1048576 a) (k : Int) (h0 : 0 ≤ k) (h1 : k + 3298542223360 ≤ 4611686018427387904) : ∃ k' a', laws_markProgram a k = some (k', a') ∧ k ≤ k' ∧ k' ≤ k + 3298542223360 ∧ laws_heldProgram a' k = some k' := by
  obtain ⟨ha_Nodes, ha_Fns⟩ := ha
  obtain ⟨k0, b0, m0, l0, u0, e0⟩ := laws_markNodeS_p a.Nodes ha_Nodes k (by omega) (by omega)
  obtain ⟨k1, b1, m1, l1, u1, e1⟩ := laws_markFnS_p a.Fns ha_Fns k0 (by omega) (by omega)
  refine ⟨k1, ⟨b0, b1⟩, ?_, by omega, by omega, ?_⟩
  · unfold laws_markProgram; simp [m0, m1]
  · unfold laws_heldProgram; simp [e0, show ¬ k0 < 0 by omega, e1, show ¬ k1 < 0 by omega]
end Go.OM
set_option linter.unusedVariables false
set_option linter.unusedSimpArgs false
namespace Go.OM
theorem ite_some {α : Type} {c : Prop} [Decidable c] (a b : α) : (if c then some a else some b) = some (if c then a else b) := by split <;> rfl
def inB (x a b : Int) : Bool := decide (a ≤ x) && decide (x ≤ b)
theorem inB_iff {x a b : Int} : inB x a b = true ↔ a ≤ x ∧ x ≤ b := by simp [inB]
theorem inB_false {x a b : Int} : inB x a b = false ↔ ¬ (a ≤ x ∧ x ≤ b) := by rw [← inB_iff]; simp
theorem impl_in_eq (x a b : Int) : impl_in x a b = some (inB x a b) := by
  unfold impl_in inB
  by_cases h : a ≤ x <;> simp [h]
theorem spec_in_eq (x a b : Int) : spec_l01In x a b = some (inB x a b) := by
  unfold spec_l01In inB
  by_cases h : a ≤ x <;> simp [h]
def bI (z : ByteArray) : List Int := z.data.toList.map fun x => ((x.toNat : Nat) : Int)
theorem bI_length (z : ByteArray) : (bI z).length = z.size := by rw [bI, List.length_map]; exact Array.length_toList
theorem sAt_bI {z : ByteArray} {k : Nat} (h : k < (bI z).length) : sAt z k = some (bI z)[k] := by
  have h1 : k < z.size := by rw [← bI_length]; exact h
  unfold sAt
  rw [if_pos ⟨by omega, by omega⟩]
  simp only [byteAt, Int.toNat_natCast, bI]
  have e : z.data.toList.length = z.size := Array.length_toList
  have h2 : k < z.data.toList.length := by omega
  rw [List.getD_eq_getElem?_getD, List.getElem?_eq_getElem h2]
  simp only [Option.getD_some, List.getElem_map]
def letterB (b : Int) : Bool := inB b 97 122
def figureB (b : Int) : Bool := inB b 48 57
theorem impl_isLetter_eq (b : Int) : impl_isLetter b = some (letterB b) := by
  unfold impl_isLetter letterB inB
  by_cases h : 97 ≤ b <;> simp [h]
theorem impl_isFigure_eq (b : Int) : impl_isFigure b = some (figureB b) := by
  unfold impl_isFigure figureB inB
  by_cases h : 48 ≤ b <;> simp [h]
theorem spec_l03Letter_eq (b : Int) : spec_l03Letter b = some (letterB b) := by
  unfold spec_l03Letter letterB inB
  by_cases h : 97 ≤ b <;> simp [h]
theorem spec_l03Figure_eq (b : Int) : spec_l03Figure b = some (figureB b) := by
  unfold spec_l03Figure figureB inB
  by_cases h : 48 ≤ b <;> simp [h]
def keys : List ByteArray := [⟨#[102, 110]⟩, ⟨#[108, 101, 116]⟩, ⟨#[105, 102]⟩, ⟨#[101, 108, 115, 101]⟩, ⟨#[119, 104, 105, 108, 101]⟩, ⟨#[112, 114, 105, 110, 116]⟩, ⟨#[100, 111]⟩, ⟨#[110, 101, 119]⟩, ⟨#[99, 108, 111, 110, 101]⟩, ⟨#[109, 117, 116]⟩, ⟨#[105, 110, 112, 117, 116]⟩, ⟨#[105, 110, 116]⟩, ⟨#[98, 111, 120]⟩, ⟨#[114, 101, 116]⟩]
def keyB (s : ByteArray) : Bool := keys.any fun w => sEq w s
theorem keys_split : strings_Split (⟨#[102, 110, 32, 108, 101, 116, 32, 105, 102, 32, 101, 108, 115, 101, 32, 119, 104, 105, 108, 101, 32, 112, 114, 105, 110, 116, 32, 100, 111, 32, 110, 101, 119, 32, 99, 108, 111, 110, 101, 32, 109, 117, 116, 32, 105, 110, 112, 117, 116, 32, 105, 110, 116, 32, 98, 111, 120, 32, 114, 101, 116]⟩ : ByteArray) (⟨#[32]⟩ : ByteArray) = some keys := by kernel_rfl
theorem any_loop (l : List ByteArray) (s : ByteArray) (hl : l.length ≤ 1048576) (f : Int → Option (Int ⊕ (Unit ⊕ Bool)))
    (hf : ∀ i, f i = if (decide (i < (l.length : Int))) = true then (getI l i).bind fun e => if (sEq e s) = true then some (Sum.inr (Sum.inr true)) else some (Sum.inl (IntKind.wrap .i64 (i + 1))) else some (Sum.inr (Sum.inl ()))) :
    loopP f 0 = some (if (l.any fun w => sEq w s) = true then .inr true else .inl ()) := by
  refine loopP_any l (fun w => sEq w s) f (fun k hk => ?_) (by rw [hf]; simp)
  rw [hf]
  simp only [ofNat_lt_true hk, if_true, getI_at hk, Option.bind_some, w64_succ hk (show l.length ≤ maxLen by show _ ≤ 9223372036854775807; omega), ite_some]
theorem spec_KeyWord_eq (s : ByteArray) : spec_KeyWord s = some (keyB s) := by
  unfold spec_KeyWord spec_l03Keys
  simp only [Option.bind_some]
  have h := any_loop keys s (by decide) (spec_KeyWord_l1 s keys) (fun i => by simp only [spec_KeyWord_l1])
  unfold keys at h
  rw [h]
  unfold keyB keys
  simp only [Option.bind_some]
  split <;> rename_i h2 <;> split at h2 <;> simp_all
theorem impl_KeyWord_eq (s : ByteArray) : impl_KeyWord s = some (keyB s) := by
  unfold impl_KeyWord impl_oneOf
  rw [keys_split]
  simp only [Option.bind_some]
  rw [any_loop keys s (by decide) (impl_oneOf_l1 s keys) (fun i => by simp only [impl_oneOf_l1])]
  unfold keyB
  simp only [Option.bind_some]
  cases keys.any fun w => sEq w s <;> rfl
def charB (b : Int) : Bool := letterB b || figureB b
def nameB (s : ByteArray) : Bool := inB s.size 1 8 && (letterB ((bI s).getD 0 0) && ((bI s).all charB && !keyB s))
theorem name_loop (s : ByteArray) (hs : s.size ≤ 8) (f : Int → Option (Int ⊕ (Unit ⊕ Bool)))
    (hf : ∀ (k : Nat) (h : k < (bI s).length), f k = some (if charB (bI s)[k] = true then .inl (IntKind.wrap .i64 ((k : Int) + 1)) else .inr (.inr false)))
    (he : f s.size = some (.inr (.inl ()))) : loopP f 0 = some (if (bI s).all charB = true then .inl () else .inr false) := by
  refine loopP_all (bI s) charB f (fun k hk => ?_) (by rw [bI_length]; exact he)
  rw [hf k hk, w64_succ hk (show (bI s).length ≤ maxLen by rw [bI_length]; show _ ≤ 9223372036854775807; omega)]
theorem bI_zero {s : ByteArray} (h : 1 ≤ s.size) : sAt s 0 = some ((bI s).getD 0 0) := by
  have h1 : 0 < (bI s).length := by rw [bI_length]; omega
  have := sAt_bI h1
  rw [show ((0 : Nat) : Int) = 0 from rfl] at this
  rw [this, List.getD_eq_getElem?_getD, List.getElem?_eq_getElem h1]; rfl
theorem impl_NameOk_eq (s : ByteArray) : impl_NameOk s = some (nameB s) := by
  unfold impl_NameOk nameB
  simp only [impl_in_eq, Option.bind_some]
  by_cases hi : inB s.size 1 8 = true
  · have hi' := inB_iff.1 hi
    rw [bI_zero (by omega), name_loop s (by omega) (impl_NameOk_l1 s) (fun k hk => ?_) (by simp [impl_NameOk_l1])]
    · simp only [hi, impl_isLetter_eq, impl_KeyWord_eq, Option.bind_some, Bool.not_true, Bool.false_eq_true, if_false, Bool.true_and]
      cases letterB ((bI s).getD 0 0) <;> cases (bI s).all charB <;> cases keyB s <;> rfl
    · have hk2 : k < s.size := by rw [← bI_length]; exact hk
      simp only [impl_NameOk_l1, ofNat_lt_true hk2, if_true, sAt_bI hk, impl_isLetter_eq, impl_isFigure_eq, Option.bind_some]
      rw [show charB (bI s)[k] = (letterB (bI s)[k] || figureB (bI s)[k]) from rfl]
      cases letterB (bI s)[k] <;> cases figureB (bI s)[k] <;> rfl
  · simp [Bool.eq_false_iff.2 hi]
theorem spec_NameOk_eq (s : ByteArray) : spec_NameOk s = some (nameB s) := by
  unfold spec_NameOk nameB
  simp only [spec_in_eq, Option.bind_some]
  by_cases hi : inB s.size 1 8 = true
  · have hi' := inB_iff.1 hi
    rw [bI_zero (by omega), name_loop s (by omega) (spec_NameOk_l1 s) (fun k hk => ?_) (by simp [spec_NameOk_l1])]
    · simp only [hi, spec_l03Letter_eq, spec_KeyWord_eq, Option.bind_some, Bool.not_true, Bool.false_eq_true, if_false, Bool.true_and]
      cases letterB ((bI s).getD 0 0) <;> cases (bI s).all charB <;> cases keyB s <;> rfl
    · have hk2 : k < s.size := by rw [← bI_length]; exact hk
      simp only [spec_NameOk_l1, ofNat_lt_true hk2, if_true, sAt_bI hk, spec_l03Letter_eq, spec_l03Figure_eq, Option.bind_some]
      rw [show charB (bI s)[k] = (letterB (bI s)[k] || figureB (bI s)[k]) from rfl]
      cases letterB (bI s)[k] <;> cases figureB (bI s)[k] <;> rfl
  · simp [Bool.eq_false_iff.2 hi]
end Go.OM
set_option linter.unusedVariables false
set_option linter.unusedSimpArgs false
namespace Go.OM
theorem w64_pred {n : Nat} (h : n ≤ 1048576) : IntKind.wrap .i64 ((n : Int) - 1) = (n : Int) - 1 := w64 (by omega) (by omega)
end Go.OM
set_option linter.unusedVariables false
set_option linter.unusedSimpArgs false
namespace Go.OM
theorem foldE_inl {α σ ρ : Type} (h : σ → α → σ) (fin : σ → ρ) : ∀ (l : List α) (s : σ), foldE (fun s x => (.inl (h s x) : σ ⊕ ρ)) fin l s = fin (l.foldl h s)
  | [], s => rfl
  | x :: l, s => by simp only [foldE, List.foldl_cons]; exact foldE_inl h fin l _
theorem app1 {n : Nat} {s : List Int} {e : Int} (h : s.length ≤ 1048576) (hn : n ≤ 64) : appI n s [e] = some (s ++ [e]) := by
  unfold appI
  have h1 : (s.length + [e].length) * n ≤ (s.length + [e].length) * 64 := Nat.mul_le_mul_left _ hn
  rw [if_pos ⟨by simp only [List.length_cons, List.length_nil] at h1 ⊢; omega, by simp only [List.length_cons, List.length_nil]; omega⟩]
def addL (out : List Int) (n : Int) : List Int := if out.contains n = true then out else out ++ [n]
theorem spec_l11Add_eq (out : List Int) (n : Int) (h : out.length ≤ 1048576) : spec_l11Add out n = some (addL out n) := by
  unfold spec_l11Add addL
  rw [loopP_find out (fun e => if (e == n) = true then some out else none) (spec_l11Add_l1 out n) (fun k hk => by
    simp only [spec_l11Add_l1, ofNat_lt_true hk, if_true, getI_at hk, Option.bind_some, w64_succ hk (show out.length ≤ maxLen by show _ ≤ 9223372036854775807; omega)]
    cases out[k] == n <;> rfl) (by simp [spec_l11Add_l1])]
  have key : ∀ l : List Int, l.findSome? (fun e => if (e == n) = true then some out else none) = if l.contains n = true then some out else none := by
    intro l
    induction l with
    | nil => rfl
    | cons x l ih =>
      rw [List.findSome?_cons, List.contains_cons]
      by_cases hx : x = n
      · simp [hx]
      · have h1 : (x == n) = false := by simpa using hx
        have h2 : (n == x) = false := by simpa using fun e => hx e.symm
        rw [h1, h2, Bool.false_or, ← ih]
        rfl
  rw [key]
  cases out.contains n
  · simp only [Bool.false_eq_true, if_false, Option.bind_some, app1 (n := 8) h (by omega)]
  · rfl
theorem mem_addL {out : List Int} {n m : Int} : m ∈ addL out n ↔ m ∈ out ∨ m = n := by
  unfold addL
  by_cases h : out.contains n = true
  · rw [if_pos h]
    have := List.contains_iff_mem.1 h
    constructor
    · exact .inl
    · rintro (h | rfl)
      · exact h
      · exact this
  · rw [if_neg h]; simp
theorem mem_foldl_addL (m : Int) : ∀ (l s : List Int), m ∈ l.foldl addL s ↔ m ∈ s ∨ m ∈ l
  | [], s => by simp
  | x :: l, s => by rw [List.foldl_cons, mem_foldl_addL m l, mem_addL, List.mem_cons, or_assoc]
end Go.OM
set_option linter.unusedVariables false
set_option linter.unusedSimpArgs false
namespace Go.OM
inductive Reach (next : Nat → List Int) (root : Nat) : Nat → Prop
  | base : Reach next root root
  | step {i : Nat} {m : Int} : Reach next root i → m ∈ next i → Reach next root m.toNat
theorem Reach.congr {next next' : Nat → List Int} {root : Nat} (h : ∀ i m, m ∈ next i ↔ m ∈ next' i) {n : Nat} : Reach next root n ↔ Reach next' root n := by
  constructor
  · intro r
    induction r with
    | base => exact .base
    | step _ hm ih => exact .step ih ((h _ _).1 hm)
  · intro r
    induction r with
    | base => exact .base
    | step _ hm ih => exact .step ih ((h _ _).2 hm)
def vis (s : List Bool × List Int) (m : Int) : List Bool × List Int := if s.1[m.toNat]? = some true then s else (s.1.set m.toNat true, s.2 ++ [m])
theorem count_set {l : List Bool} {k : Nat} (hk : k < l.length) (h : l[k]? ≠ some true) : (l.set k true).count true = l.count true + 1 := by
  induction l generalizing k with
  | nil => simp at hk
  | cons x l ih =>
    cases k with
    | zero =>
      simp only [List.getElem?_cons_zero, ne_eq, Option.some.injEq] at h
      have : x = false := by cases x <;> simp_all
      subst this
      simp [List.set_cons_zero]
    | succ k =>
      simp only [List.length_cons] at hk
      simp only [List.getElem?_cons_succ] at h
      rw [List.set_cons_succ, List.count_cons, List.count_cons, ih (by omega) h]
      omega
theorem vis_len (s : List Bool × List Int) (m : Int) : (vis s m).1.length = s.1.length := by unfold vis; split <;> simp
theorem vis_count {s : List Bool × List Int} {m : Int} (h : m.toNat < s.1.length) : (vis s m).2.length + s.1.count true = s.2.length + (vis s m).1.count true := by
  unfold vis
  split
  · rfl
  · rename_i hn
    simp only [List.length_append, List.length_cons, List.length_nil]
    rw [count_set h hn]; omega
theorem vis_mono {s : List Bool × List Int} {m : Int} {n : Nat} (h : s.1[n]? = some true) : (vis s m).1[n]? = some true := by
  unfold vis
  split
  · exact h
  · simp only [List.getElem?_set]
    split
    · rename_i e
      subst e
      have := (List.getElem?_eq_some_iff.1 h).1
      simp [this]
    · exact h
theorem vis_self {s : List Bool × List Int} {m : Int} (h : m.toNat < s.1.length) : (vis s m).1[m.toNat]? = some true := by
  unfold vis
  split
  · rename_i e; exact e
  · simp [h]
theorem vis_new {s : List Bool × List Int} {m : Int} {n : Nat} (h : (vis s m).1[n]? = some true) : s.1[n]? = some true ∨ (n = m.toNat ∧ m ∈ (vis s m).2) := by
  unfold vis at h ⊢
  split at h
  · exact .inl h
  · rename_i hn
    rw [if_neg hn]
    simp only [List.getElem?_set] at h
    split at h
    · rename_i e; exact .inr ⟨e.symm, by simp⟩
    · exact .inl h
theorem vis_todo {s : List Bool × List Int} {m x : Int} (h : x ∈ (vis s m).2) : x ∈ s.2 ∨ x = m := by
  unfold vis at h
  split at h
  · exact .inl h
  · simpa using h
theorem vis_sub {s : List Bool × List Int} {m x : Int} (h : x ∈ s.2) : x ∈ (vis s m).2 := by
  unfold vis
  split
  · exact h
  · simp [h]
structure VisL (W : Nat) (s s' : List Bool × List Int) (nl : List Int) : Prop where
  len : s'.1.length = s.1.length
  count : s'.2.length + s.1.count true = s.2.length + s'.1.count true
  cle : s.1.count true ≤ s'.1.count true
  mono : ∀ n : Nat, s.1[n]? = some true → s'.1[n]? = some true
  all : ∀ m ∈ nl, s'.1[m.toNat]? = some true
  new : ∀ n : Nat, s'.1[n]? = some true → s.1[n]? = some true ∨ ∃ m ∈ nl, n = m.toNat ∧ m ∈ s'.2
  todo : ∀ x ∈ s'.2, x ∈ s.2 ∨ x ∈ nl
  sub : ∀ x ∈ s.2, x ∈ s'.2
theorem visL : ∀ (nl : List Int) (s : List Bool × List Int), (∀ m ∈ nl, m.toNat < s.1.length) → VisL 0 s (nl.foldl vis s) nl
  | [], s, _ => ⟨rfl, rfl, Nat.le_refl _, fun _ h => h, by simp, fun _ h => .inl h, fun _ h => .inl h, fun _ h => h⟩
  | m :: nl, s, h => by
    have h1 : m.toNat < s.1.length := h m (by simp)
    have ih := visL nl (vis s m) (fun x hx => by rw [vis_len]; exact h x (by simp [hx]))
    have hc := vis_count h1
    have hcl : s.1.count true ≤ (vis s m).1.count true := by
      unfold vis
      split
      · exact Nat.le_refl _
      · rename_i hn; rw [count_set h1 hn]; omega
    rw [List.foldl_cons]
    refine ⟨ih.len.trans (vis_len s m), ?_, Nat.le_trans hcl ih.cle, fun n hn => ih.mono n (vis_mono hn), fun x hx => ?_, fun n hn => ?_, fun x hx => ?_, fun x hx => ih.sub x (vis_sub hx)⟩
    · have := ih.count; omega
    · rcases List.mem_cons.1 hx with rfl | hx
      · exact ih.mono _ (vis_self h1)
      · exact ih.all x hx
    · rcases ih.new n hn with h2 | ⟨x, h2, h3, h4⟩
      · rcases vis_new h2 with h3 | ⟨h3, h4⟩
        · exact .inl h3
        · exact .inr ⟨m, by simp, h3, ih.sub _ h4⟩
      · exact .inr ⟨x, by simp [h2], h3, h4⟩
    · rcases ih.todo x hx with h2 | h2
      · rcases vis_todo h2 with h3 | h3
        · exact .inl h3
        · exact .inr (by simp [h3])
      · exact .inr (by simp [h2])
theorem vis_app (a : List Int) (h : List Bool) (b : List Int) (m : Int) : vis (h, a ++ b) m = ((vis (h, b) m).1, a ++ (vis (h, b) m).2) := by
  unfold vis
  simp only
  split <;> simp
theorem foldl_vis_app : ∀ (nl : List Int) (a : List Int) (h : List Bool) (b : List Int), nl.foldl vis (h, a ++ b) = ((nl.foldl vis (h, b)).1, a ++ (nl.foldl vis (h, b)).2)
  | [], _, _, _ => rfl
  | m :: nl, a, h, b => by
    rw [List.foldl_cons, List.foldl_cons, vis_app, foldl_vis_app nl a]
structure WInv (W root : Nat) (next : Nat → List Int) (s : List Bool × List Int) : Prop where
  len : s.1.length = W
  cnt : s.2.length ≤ s.1.count true
  bnd : ∀ x ∈ s.2, 0 ≤ x ∧ x < W
  rt : s.1[root]? = some true
  sound : ∀ n : Nat, s.1[n]? = some true → Reach next root n
  closed : ∀ n : Nat, s.1[n]? = some true → (n : Int) ∈ s.2 ∨ ∀ m ∈ next n, s.1[m.toNat]? = some true
  tdo : ∀ x ∈ s.2, s.1[x.toNat]? = some true
theorem WInv.go {W root : Nat} {next : Nat → List Int} {s : List Bool × List Int} (H : WInv W root next s) (hn : ∀ (i : Nat), i < W → ∀ m ∈ next i, 0 ≤ m ∧ m < W) {e : Int} {rest nl : List Int} (he : e ∈ s.2)
    (h1 : ∀ x ∈ s.2, x = e ∨ x ∈ rest) (h2 : ∀ x ∈ rest, x ∈ s.2) (h3 : rest.length + 1 = s.2.length) (h4 : ∀ m, m ∈ nl ↔ m ∈ next e.toNat) :
    WInv W root next (nl.foldl vis (s.1, rest)) ∧ 2 * (W - (nl.foldl vis (s.1, rest)).1.count true) + (nl.foldl vis (s.1, rest)).2.length < 2 * (W - s.1.count true) + s.2.length := by
  have heb := H.bnd e he
  have hb : ∀ m ∈ nl, 0 ≤ m ∧ m < W := fun m hm => hn e.toNat (by omega) m ((h4 m).1 hm)
  have V := visL nl (s.1, rest) (fun m hm => by have := hb m hm; have := H.len; simp only; omega)
  have c1 := V.count
  have c2 := V.cle
  have c3 := H.cnt
  have c4 : (nl.foldl vis (s.1, rest)).1.count true ≤ W := by
    have := List.count_le_length (a := true) (l := (nl.foldl vis (s.1, rest)).1)
    have := V.len
    have := H.len
    simp only at *; omega
  simp only at c1 c2
  refine ⟨⟨V.len.trans H.len, by omega, fun x hx => ?_, V.mono _ H.rt, fun n hn' => ?_, fun n hn' => ?_, fun x hx => ?_⟩, by omega⟩
  · rcases V.todo x hx with h | h
    · exact H.bnd x (h2 x h)
    · exact hb x h
  · rcases V.new n hn' with h | ⟨m, h, rfl, _⟩
    · exact H.sound n h
    · exact .step (H.sound _ (H.tdo e he)) ((h4 m).1 h)
  · rcases V.new n hn' with h | ⟨m, h, h5, h6⟩
    · rcases H.closed n h with h5 | h5
      · rcases h1 _ h5 with h6 | h6
        · right
          intro m hm
          have : e.toNat = n := by omega
          exact V.all m ((h4 m).2 (this ▸ hm))
        · exact .inl (V.sub _ h6)
      · exact .inr fun m hm => V.mono _ (h5 m hm)
    · left
      have := hb m h
      have e1 : (n : Int) = m := by omega
      rw [e1]; exact h6
  · rcases V.todo x hx with h | h
    · exact V.mono _ (H.tdo x (h2 x h))
    · exact V.all x h
open Classical in
noncomputable def reachL (W root : Nat) (next : Nat → List Int) : List Bool := (List.range W).map fun n => decide (Reach next root n)
theorem WInv.done {W root : Nat} {next : Nat → List Int} {s : List Bool × List Int} (H : WInv W root next s) (hn : ∀ (i : Nat), i < W → ∀ m ∈ next i, 0 ≤ m ∧ m < W) (h : s.2 = []) : s.1 = reachL W root next := by
  have hcl : ∀ n : Nat, Reach next root n → s.1[n]? = some true := by
    intro n r
    induction r with
    | base => exact H.rt
    | step _ hm ih =>
      rcases H.closed _ ih with h5 | h5
      · rw [h] at h5; cases h5
      · exact h5 _ hm
  apply List.ext_getElem?
  intro n
  unfold reachL
  by_cases hlt : n < W
  · have hlt2 : n < s.1.length := by rw [H.len]; exact hlt
    rw [List.getElem?_eq_getElem hlt2, List.getElem?_map, List.getElem?_range hlt]
    simp only [Option.map_some, Option.some.injEq]
    by_cases r : Reach next root n
    · have := hcl n r
      rw [List.getElem?_eq_getElem hlt2] at this
      simp only [Option.some.injEq] at this
      simp [this, r]
    · have : s.1[n] ≠ true := fun e => r (H.sound n (by rw [List.getElem?_eq_getElem hlt2, e]))
      simp [r, this]
  · rw [List.getElem?_eq_none (by rw [H.len]; omega), List.getElem?_eq_none (by simp; omega)]
theorem wl_loop {τ ρ : Type} (f : τ → Option (τ ⊕ ρ)) (abs : τ → List Bool × List Int) (Ok : τ → Prop) (W root : Nat) (next : Nat → List Int) (fin : τ → ρ) (hn : ∀ (i : Nat), i < W → ∀ m ∈ next i, 0 ≤ m ∧ m < W)
    (hstep : ∀ t, Ok t → WInv W root next (abs t) → (abs t).2 ≠ [] → ∃ (t' : τ) (e : Int) (rest nl : List Int), f t = some (.inl t') ∧ Ok t' ∧ e ∈ (abs t).2 ∧ (∀ x ∈ (abs t).2, x = e ∨ x ∈ rest) ∧ (∀ x ∈ rest, x ∈ (abs t).2) ∧ rest.length + 1 = (abs t).2.length ∧ (∀ m, m ∈ nl ↔ m ∈ next e.toNat) ∧ abs t' = nl.foldl vis ((abs t).1, rest))
    (hend : ∀ t, Ok t → (abs t).2 = [] → f t = some (.inr (fin t))) (t : τ) (h0 : Ok t) (h1 : WInv W root next (abs t)) : ∃ t', loopP f t = some (fin t') ∧ Ok t' ∧ (abs t').1 = reachL W root next := by
  obtain ⟨r, g1, t', g2, g3, g4⟩ := loopP_run (f := f) (fun t => Ok t ∧ WInv W root next (abs t)) (fun t => 2 * (W - (abs t).1.count true) + (abs t).2.length) (fun r => ∃ t', r = fin t' ∧ Ok t' ∧ (abs t').1 = reachL W root next) (by
    rintro t ⟨k1, k2⟩
    by_cases hd : (abs t).2 = []
    · right
      exact ⟨_, hend t k1 hd, t, rfl, k1, k2.done hn hd⟩
    · left
      obtain ⟨t', e, rest, nl, q1, q2, q3, q4, q5, q6, q7, q8⟩ := hstep t k1 k2 hd
      obtain ⟨p1, p2⟩ := k2.go hn q3 q4 q5 q6 q7
      exact ⟨t', q1, ⟨q2, by rw [q8]; exact p1⟩, by rw [q8]; exact p2⟩) t ⟨h0, h1⟩
  exact ⟨t', by rw [g1, g2], g3, g4⟩
theorem vis_get {o : List Bool} {m : Int} (h0 : 0 ≤ m) (h : m < o.length) : getI o m = some (o[m.toNat]'(by omega)) := by
  have : m = ((m.toNat : Nat) : Int) := by omega
  conv => lhs; rw [this]
  exact getI_at (by omega)
theorem vis_eq {o : List Bool} {t : List Int} {m : Int} (h : m.toNat < o.length) : vis (o, t) m = if o[m.toNat] = true then (o, t) else (o.set m.toNat true, t ++ [m]) := by
  unfold vis
  simp only [List.getElem?_eq_getElem h, Option.some.injEq]
end Go.OM
set_option linter.unusedVariables false
set_option linter.unusedSimpArgs false
namespace Go.OM
abbrev Tab := List (List Bool)
structure TabOk (W L : Nat) (t : Tab) : Prop where
  len : t.length = W
  row : ∀ r ∈ t, r.length = L
theorem TabOk.set {W L : Nat} {t : Tab} (h : TabOk W L t) (n : Nat) {r : List Bool} (hr : r.length = L) : TabOk W L (t.set n r) :=
  ⟨by simpa using h.len, fun x hx => by
    rcases List.mem_or_eq_of_mem_set hx with h1 | h1
    · exact h.row x h1
    · rw [h1]; exact hr⟩
theorem w64_nat {k n : Nat} (hk : k < n) (hn : n ≤ 1048576) : IntKind.wrap .i64 ((k : Int) + 1) = ((k + 1 : Nat) : Int) := w64_succ hk (show n ≤ maxLen by show _ ≤ 9223372036854775807; omega)
def cntR (r : List Bool) : Nat := r.count true
def cntT (t : Tab) : Nat := (t.map cntR).sum
end Go.OM
set_option linter.unusedVariables false
set_option linter.unusedSimpArgs false
namespace Go.OM
theorem getI_in {α : Type} {l : List α} {v : Int} (h0 : 0 ≤ v) (h : v < l.length) : getI l v = some (l[v.toNat]'(by omega)) := by
  have : v = ((v.toNat : Nat) : Int) := by omega
  conv => lhs; rw [this]
  exact getI_at (by omega)
end Go.OM
set_option linter.unusedVariables false
set_option linter.unusedSimpArgs false
namespace Go.OM
structure Dn (W L : Nat) (s s' : Tab × Bool) : Prop where
  ok : TabOk W L s'.1
  le : cntT s'.1 ≤ cntT s.1
  lt : s'.2 = true → s.2 = true ∨ cntT s'.1 < cntT s.1
  keep : s.2 = true → s'.2 = true
theorem Dn.trans {W L : Nat} {s s' s2 : Tab × Bool} (h : Dn W L s s') (h2 : Dn W L s' s2) : Dn W L s s2 :=
  ⟨h2.ok, Nat.le_trans h2.le h.le, fun e => by
    rcases h2.lt e with e | e
    · rcases h.lt e with e | e
      · exact .inl e
      · exact .inr (Nat.lt_of_le_of_lt h2.le e)
    · exact .inr (Nat.lt_of_lt_of_le e h.le), fun e => h2.keep (h.keep e)⟩
end Go.OM
set_option linter.unusedVariables false
set_option linter.unusedSimpArgs false
namespace Go.OM
theorem hasInt_eq (l : List Int) (n : Int) (hl : l.length ≤ 1048576) : impl_hasInt l n = some (l.contains n) := by
  unfold impl_hasInt
  rw [loopP_any l (fun e => e == n) (impl_hasInt_l1 l n) (fun k hk => by
    simp only [impl_hasInt_l1, ofNat_lt_true hk, if_true, getI_at hk, Option.bind_some, w64_nat hk hl]
    cases l[k] == n <;> rfl) (by simp [impl_hasInt_l1])]
  have : (l.any fun e => e == n) = l.contains n := by
    induction l with
    | nil => rfl
    | cons x l ih =>
      rw [List.any_cons, List.contains_cons, ih (by simp at hl; omega)]
      congr 1
      rw [Bool.eq_iff_iff, beq_iff_eq, beq_iff_eq]
      exact eq_comm
  rw [this]
  cases l.contains n <;> rfl
theorem find_range {ρ : Type} (n : Nat) (q : Nat → Option ρ) (f : Int → Option (Int ⊕ (Unit ⊕ ρ)))
    (hf : ∀ (k : Nat), k < n → f k = some (match q k with | none => .inl ((k + 1 : Nat) : Int) | some r => .inr (.inr r)))
    (he : f n = some (.inr (.inl ()))) : loopP f 0 = some (match (List.range n).findSome? q with | some r => .inr r | none => .inl ()) :=
  loopP_find (List.range n) q f (fun k hk => by
    have hk' : k < n := by simpa using hk
    rw [hf k hk', List.getElem_range]
    all_goals (cases q k <;> rfl)) (by rw [List.length_range]; exact he)
end Go.OM
set_option linter.unusedVariables false
set_option linter.unusedSimpArgs false
namespace Go.OM
def valueB (k : Int) : Bool := inB k 1 12
def stepKB (k : Int) : Bool := inB k 13 19
theorem impl_isValue_eq (k : Int) : impl_isValue k = some (valueB k) := by simp only [impl_isValue, impl_in_eq, Option.bind_some, valueB]
theorem impl_isStep_eq (k : Int) : impl_isStep k = some (stepKB k) := by simp only [impl_isStep, impl_in_eq, Option.bind_some, stepKB]
theorem spec_l04Value_eq (k : Int) : spec_l04Value k = some (valueB k) := by simp only [spec_l04Value, spec_in_eq, Option.bind_some, valueB]
theorem spec_l04Statement_eq (k : Int) : spec_l04Statement k = some (stepKB k) := by simp only [spec_l04Statement, spec_in_eq, Option.bind_some, stepKB]
def shapeB (k : Int) : Int × Int := if k = 8 ∨ k = 13 ∨ k = 14 ∨ k = 15 ∨ k = 18 ∨ k = 19 then (1, 1) else if k = 9 ∨ k = 10 ∨ k = 11 ∨ k = 17 then (2, 2) else if k = 16 then (3, 3) else if k = 12 then (0, 3) else if k = 20 then (0, 12) else (0, 0)
theorem impl_shape_eq (k : Int) : impl_shape k = some (shapeB k) := by
  unfold impl_shape shapeB
  by_cases h8 : k = 8
  · simp [h8]
  by_cases h13 : k = 13
  · simp [h13]
  by_cases h14 : k = 14
  · simp [h14]
  by_cases h15 : k = 15
  · simp [h15]
  by_cases h18 : k = 18
  · simp [h18]
  by_cases h19 : k = 19
  · simp [h19]
  by_cases h9 : k = 9
  · simp [h9]
  by_cases h10 : k = 10
  · simp [h10]
  by_cases h11 : k = 11
  · simp [h11]
  by_cases h17 : k = 17
  · simp [h17]
  by_cases h16 : k = 16
  · simp [h16]
  by_cases h12 : k = 12
  · simp [h12]
  by_cases h20 : k = 20
  · simp [h20]
  simp [h8, h13, h14, h15, h18, h19, h9, h10, h11, h17, h16, h12, h20]
theorem spec_l04Kids_eq (k : Int) : spec_l04Kids k = some (shapeB k) := by
  unfold spec_l04Kids shapeB
  by_cases h8 : k = 8
  · simp [h8]
  by_cases h13 : k = 13
  · simp [h13]
  by_cases h14 : k = 14
  · simp [h14]
  by_cases h15 : k = 15
  · simp [h15]
  by_cases h18 : k = 18
  · simp [h18]
  by_cases h19 : k = 19
  · simp [h19]
  by_cases h9 : k = 9
  · simp [h9]
  by_cases h10 : k = 10
  · simp [h10]
  by_cases h11 : k = 11
  · simp [h11]
  by_cases h17 : k = 17
  · simp [h17]
  by_cases h16 : k = 16
  · simp [h16]
  by_cases h12 : k = 12
  · simp [h12]
  by_cases h20 : k = 20
  · simp [h20]
  simp [h8, h13, h14, h15, h18, h19, h9, h10, h11, h17, h16, h12, h20]
def fitsB (kind i kid : Int) : Bool := if kind = 20 then stepKB kid else if (kind = 16 ∨ kind = 17) ∧ 0 < i then kid == 20 else if kind = 19 then kid == 12 else valueB kid
theorem impl_kidFits_eq (kind i kid : Int) : impl_kidFits kind i kid = some (fitsB kind i kid) := by
  unfold impl_kidFits fitsB
  simp only [impl_isStep_eq, impl_isValue_eq, Option.bind_some, gt_iff_lt]
  by_cases h20 : kind = 20
  · simp [h20]
  by_cases h16 : kind = 16
  · by_cases hi : 0 < i <;> simp [h16, hi]
  by_cases h17 : kind = 17
  · by_cases hi : 0 < i <;> simp [h17, hi]
  by_cases h19 : kind = 19
  · simp [h19]
  simp [h20, h16, h17, h19]
theorem spec_l04Fits_eq (kind i kid : Int) : spec_l04Fits kind i kid = some (fitsB kind i kid) := by
  unfold spec_l04Fits fitsB
  simp only [spec_l04Statement_eq, spec_l04Value_eq, Option.bind_some, gt_iff_lt]
  by_cases h20 : kind = 20
  · simp [h20]
  by_cases h16 : kind = 16
  · by_cases hi : 0 < i <;> simp [h16, hi]
  by_cases h17 : kind = 17
  · by_cases hi : 0 < i <;> simp [h17, hi]
  by_cases h19 : kind = 19
  · simp [h19]
  simp [h20, h16, h17, h19]
def namedB (k : Int) : Bool := inB k 2 6 || inB k 12 15
theorem impl_hasName_eq (k : Int) : impl_hasName k = some (namedB k) := by
  unfold impl_hasName namedB
  simp only [impl_in_eq, Option.bind_some]
  cases inB k 2 6 <;> rfl
theorem spec_l04Named_eq (k : Int) : spec_l04Named k = some (namedB k) := by
  unfold spec_l04Named namedB
  by_cases h : inB k 2 6 = true
  · have h' := inB_iff.1 h
    rw [h]
    have : k = 2 ∨ k = 3 ∨ k = 4 ∨ k = 5 ∨ k = 6 := by omega
    rcases this with e | e | e | e | e <;> simp [e]
  · by_cases h2 : inB k 12 15 = true
    · have h' := inB_iff.1 h2
      rw [h2]
      have : k = 12 ∨ k = 13 ∨ k = 14 ∨ k = 15 := by omega
      rcases this with e | e | e | e <;> simp [e]
    · have h' := inB_false.1 (Bool.eq_false_iff.2 h)
      have h2' := inB_false.1 (Bool.eq_false_iff.2 h2)
      have n2 : ¬ k = 2 := by omega
      have n3 : ¬ k = 3 := by omega
      have n4 : ¬ k = 4 := by omega
      have n5 : ¬ k = 5 := by omega
      have n6 : ¬ k = 6 := by omega
      have n12 : ¬ k = 12 := by omega
      have n13 : ¬ k = 13 := by omega
      have n14 : ¬ k = 14 := by omega
      have n15 : ¬ k = 15 := by omega
      simp [Bool.eq_false_iff.2 h, Bool.eq_false_iff.2 h2, n2, n3, n4, n5, n6, n12, n13, n14, n15]
def kidB (nodes : List GNode) (k : Nat) (x : GNode) (i : Nat) : Bool := match x.Kids[i]? with
  | none => false
  | some kid => inB kid 0 ((k : Int) - 1) && (!((x.Kids.take i).contains kid) && (match nodes[kid.toNat]? with | some y => fitsB x.Kind i y.Kind | none => false))
theorem kidB_at {nodes : List GNode} {k : Nat} {x : GNode} {i : Nat} (h : i < x.Kids.length) : kidB nodes k x i = (inB x.Kids[i] 0 ((k : Int) - 1) && (!((x.Kids.take i).contains x.Kids[i]) && (match nodes[(x.Kids[i]).toNat]? with | some y => fitsB x.Kind i y.Kind | none => false))) := by
  unfold kidB; rw [List.getElem?_eq_getElem h]
def kidsB (nodes : List GNode) (k : Nat) (x : GNode) : Bool := (List.range x.Kids.length).all (kidB nodes k x)
def numNB (x : GNode) : Bool := if x.Kind = 1 then inB x.Num 0 1000000000 else x.Num == 0
def nameNB (x : GNode) : Bool := if namedB x.Kind = true then nameB x.Name else sEq x.Name ⟨#[]⟩
def nodeB (nodes : List GNode) (k : Nat) : Bool := match nodes[k]? with
  | none => false
  | some x => inB x.Kind 1 20 && (inB x.Kids.length (shapeB x.Kind).1 (shapeB x.Kind).2 && (kidsB nodes k x && (numNB x && nameNB x)))
theorem range_all {ρ : Type} (n : Nat) (hn : n ≤ 1048576) (p : Nat → Bool) (b : ρ) (f : Int → Option (Int ⊕ (Unit ⊕ ρ)))
    (hf : ∀ (k : Nat), k < n → f k = some (if p k = true then .inl (IntKind.wrap .i64 ((k : Int) + 1)) else .inr (.inr b)))
    (he : f n = some (.inr (.inl ()))) : loopP f 0 = some (if (List.range n).all p = true then .inl () else .inr b) := by
  rw [find_range n (fun k => if p k = true then none else some b) f (fun k hk => by
    rw [hf k hk, w64_nat hk hn]
    cases p k <;> rfl) he]
  have key : ∀ l : List Nat, l.findSome? (fun k => if p k = true then none else some b) = if l.all p = true then none else some b := by
    intro l
    induction l with
    | nil => rfl
    | cons x l ih =>
      rw [List.findSome?_cons, List.all_cons]
      cases hp : p x
      · simp
      · simp only [if_true, Bool.true_and]; exact ih
  rw [key]
  cases (List.range n).all p <;> rfl
theorem shape_hi (k : Int) : (shapeB k).2 ≤ 12 := by
  unfold shapeB
  repeat' split
  all_goals simp
theorem nameB_empty : nameB ⟨#[]⟩ = false := by
  unfold nameB
  have : inB ((⟨#[]⟩ : ByteArray).size : Int) 1 8 = false := rfl
  rw [this]; rfl
theorem impl_NodeOk_eq (nodes : List GNode) (hn : nodes.length ≤ 1048576) (k : Int) : impl_NodeOk nodes k = some (decide (0 ≤ k) && nodeB nodes k.toNat) := by
  unfold impl_NodeOk
  simp only [impl_in_eq, Option.bind_some, w64_pred hn]
  by_cases hi : inB k 0 ((nodes.length : Int) - 1) = true
  · have hi' := inB_iff.1 hi
    have hk : k.toNat < nodes.length := by omega
    have hkk : k = ((k.toNat : Nat) : Int) := by omega
    rw [decide_eq_true hi'.1, Bool.true_and]
    generalize k.toNat = m at *
    subst hkk
    unfold nodeB
    rw [List.getElem?_eq_getElem hk, getI_at hk]
    simp only [hi, Bool.not_true, Bool.false_eq_true, if_false, Option.bind_some, impl_shape_eq]
    generalize nodes[m] = x
    cases h1 : inB x.Kind 1 20
    · rfl
    cases h2 : inB x.Kids.length (shapeB x.Kind).1 (shapeB x.Kind).2
    · rfl
    have h2' := inB_iff.1 h2
    have hs := shape_hi x.Kind
    have hkl : x.Kids.length ≤ 1048576 := by omega
    have hw : IntKind.wrap .i64 ((m : Int) - 1) = (m : Int) - 1 := w64 (by omega) (by omega)
    rw [range_all x.Kids.length hkl (kidB nodes m x) false (impl_NodeOk_l1 nodes m x) (fun i hi => by
      have hsub : subI x.Kids 0 (i : Int) = some (x.Kids.take i) := by
        unfold subI; rw [if_pos ⟨by omega, by omega, by omega⟩]; simp
      simp only [impl_NodeOk_l1, ofNat_lt_true hi, if_true, getI_at hi, Option.bind_some, impl_in_eq, hw, hsub, hasInt_eq (x.Kids.take i) _ (by simp; omega), impl_kidFits_eq]
      rw [kidB_at hi]
      cases h3 : inB x.Kids[i] 0 ((m : Int) - 1)
      · rfl
      have h3' := inB_iff.1 h3
      cases h4 : (x.Kids.take i).contains x.Kids[i]
      · have hlt : x.Kids[i].toNat < nodes.length := by omega
        rw [getI_in h3'.1 (by omega), List.getElem?_eq_getElem hlt]
        simp only [Bool.not_true, Bool.false_eq_true, if_false, Option.bind_some, Bool.not_false, Bool.true_and]
        cases fitsB x.Kind i nodes[x.Kids[i].toNat].Kind <;> rfl
      · rfl) (by simp [impl_NodeOk_l1])]
    have hkk : (List.range x.Kids.length).all (kidB nodes m x) = kidsB nodes m x := rfl
    rw [hkk]
    cases kidsB nodes m x
    · rfl
    unfold numNB nameNB
    simp only [impl_hasName_eq, impl_NameOk_eq, Option.bind_some, Bool.not_true, Bool.false_eq_true, if_false, if_true]
    by_cases hkd : x.Kind = 1
    · have e : (x.Kind == 1) = true := by simpa using hkd
      rw [if_pos hkd, if_pos e]
      cases inB x.Num 0 1000000000
      · rfl
      cases namedB x.Kind <;> rfl
    · have e : ¬ (x.Kind == 1) = true := by simpa using hkd
      have e2 : (x.Num != 0) = !(x.Num == 0) := rfl
      rw [if_neg hkd, if_neg e, e2]
      cases x.Num == 0
      · rfl
      cases namedB x.Kind <;> rfl
  · simp only [Bool.eq_false_iff.2 hi, Bool.not_false, if_true]
    have hi' := inB_false.1 (Bool.eq_false_iff.2 hi)
    congr 1
    by_cases h0 : 0 ≤ k
    · unfold nodeB
      rw [List.getElem?_eq_none (by omega)]; simp
    · simp [h0]
theorem spec_NodeOk_eq (nodes : List GNode) (hn : nodes.length ≤ 1048576) (k : Int) : spec_NodeOk nodes k = some (decide (0 ≤ k) && nodeB nodes k.toNat) := by
  unfold spec_NodeOk
  simp only [spec_in_eq, Option.bind_some, w64_pred hn]
  by_cases hi : inB k 0 ((nodes.length : Int) - 1) = true
  · have hi' := inB_iff.1 hi
    have hk : k.toNat < nodes.length := by omega
    have hkk : k = ((k.toNat : Nat) : Int) := by omega
    rw [decide_eq_true hi'.1, Bool.true_and]
    generalize k.toNat = m at *
    subst hkk
    unfold nodeB
    rw [List.getElem?_eq_getElem hk, getI_at hk]
    simp only [hi, Bool.not_true, Bool.false_eq_true, if_false, Option.bind_some, spec_l04Kids_eq]
    generalize nodes[m] = x
    cases h1 : inB x.Kind 1 20
    · rfl
    simp only [Bool.not_true, Bool.false_eq_true, if_false, Bool.true_and]
    cases h2 : inB x.Kids.length (shapeB x.Kind).1 (shapeB x.Kind).2
    · rfl
    have h2' := inB_iff.1 h2
    have hs := shape_hi x.Kind
    have hkl : x.Kids.length ≤ 1048576 := by omega
    have hw : IntKind.wrap .i64 ((m : Int) - 1) = (m : Int) - 1 := w64 (by omega) (by omega)
    rw [range_all x.Kids.length hkl (kidB nodes m x) false (spec_NodeOk_l1 nodes m x) (fun i hi => by
      simp only [spec_NodeOk_l1, ofNat_lt_true hi, if_true, getI_at hi, Option.bind_some, spec_in_eq, hw, spec_l04Fits_eq]
      rw [range_all i (by omega) (fun j => !(x.Kids[i] == (x.Kids[j]?).getD 0)) (.inr (.inr false)) (spec_NodeOk_l2 x i) (fun j hj => by
        have hjl : j < x.Kids.length := by omega
        simp only [spec_NodeOk_l2, ofNat_lt_true hj, if_true, getI_at hi, getI_at hjl, Option.bind_some, List.getElem?_eq_getElem hjl, Option.getD_some]
        cases x.Kids[i] == x.Kids[j] <;> rfl) (by simp [spec_NodeOk_l2])]
      have hall : (List.range i).all (fun j => !(x.Kids[i] == (x.Kids[j]?).getD 0)) = !((x.Kids.take i).contains x.Kids[i]) := by
        rw [Bool.eq_iff_iff]
        simp only [List.all_eq_true, List.mem_range, Bool.not_eq_true', List.contains_eq_mem, decide_eq_false_iff_not, beq_eq_false_iff_ne, ne_eq]
        constructor
        · intro h hm
          obtain ⟨j, hj, e⟩ := List.mem_iff_getElem.1 hm
          simp only [List.length_take] at hj
          rw [List.getElem_take] at e
          refine h j (by omega) ?_
          rw [List.getElem?_eq_getElem (by omega)]
          exact e.symm
        · intro h j hj e
          rw [List.getElem?_eq_getElem (show j < x.Kids.length by omega)] at e
          refine h ?_
          rw [e]
          refine List.mem_iff_getElem.2 ⟨j, by simp only [List.length_take]; omega, ?_⟩
          rw [List.getElem_take]; rfl
      rw [hall]
      rw [kidB_at hi]
      cases h3 : inB x.Kids[i] 0 ((m : Int) - 1)
      · rfl
      have h3' := inB_iff.1 h3
      have hlt : x.Kids[i].toNat < nodes.length := by omega
      rw [getI_in h3'.1 (by omega), List.getElem?_eq_getElem hlt]
      simp only [Bool.not_true, Bool.false_eq_true, if_false, Option.bind_some, Bool.true_and]
      cases fitsB x.Kind i nodes[x.Kids[i].toNat].Kind <;> cases (x.Kids.take i).contains x.Kids[i] <;> rfl) (by simp [spec_NodeOk_l1])]
    have hkk : (List.range x.Kids.length).all (kidB nodes m x) = kidsB nodes m x := rfl
    rw [hkk]
    unfold numNB nameNB
    simp only [spec_l04Named_eq, spec_NameOk_eq, Option.bind_some, Bool.not_true, Bool.false_eq_true, if_false, if_true]
    have hname : (if (!(namedB x.Kind == (!(sEq x.Name (⟨#[]⟩ : ByteArray))))) = true then some true else if (!(sEq x.Name (⟨#[]⟩ : ByteArray))) = true then some (!(nameB x.Name)) else some false) = some (!(if namedB x.Kind = true then nameB x.Name else sEq x.Name ⟨#[]⟩)) := by
      cases he : sEq x.Name ⟨#[]⟩ with
      | true =>
        have : x.Name = ⟨#[]⟩ := by rw [sEq_iff] at he; simpa using he
        cases namedB x.Kind
        · rfl
        · rw [this, nameB_empty]; rfl
      | false =>
        cases namedB x.Kind <;> rfl
    rw [hname]
    have hnum : (if (!(inB x.Num 0 1000000000)) = true then some true else if (x.Kind != 1) = true then some (x.Num != 0) else some false) = some (!(if x.Kind = 1 then inB x.Num 0 1000000000 else x.Num == 0)) := by
      have e2 : (x.Num != 0) = !(x.Num == 0) := rfl
      by_cases hkd : x.Kind = 1
      · have e : (x.Kind != 1) = false := by simp [hkd]
        rw [if_pos hkd, e]
        cases inB x.Num 0 1000000000 <;> rfl
      · have e : (x.Kind != 1) = true := by simpa using hkd
        rw [if_neg hkd, e, e2]
        cases hz : x.Num == 0 with
        | true =>
          have : x.Num = 0 := by simpa using hz
          rw [this]; rfl
        | false => cases inB x.Num 0 1000000000 <;> rfl
    rw [hnum]
    generalize (if x.Kind = 1 then inB x.Num 0 1000000000 else x.Num == 0) = u
    generalize (if namedB x.Kind = true then nameB x.Name else sEq x.Name ⟨#[]⟩) = v
    cases u <;> cases v <;> cases kidsB nodes m x <;> rfl
  · simp only [Bool.eq_false_iff.2 hi, Bool.not_false, if_true, Option.bind_some]
    have hi' := inB_false.1 (Bool.eq_false_iff.2 hi)
    congr 1
    by_cases h0 : 0 ≤ k
    · unfold nodeB
      rw [List.getElem?_eq_none (by omega)]; simp
    · simp [h0]
end Go.OM
set_option linter.unusedVariables false
set_option linter.unusedSimpArgs false
namespace Go.OM
def mx (a b : Int) : Int := if b > a then b else a
def dstep (nodes : List GNode) (out : List Int) (i : Nat) : Int := match nodes[i]? with
  | some x => x.Kids.foldl (fun d kid => mx d (out.getD kid.toNat 0 + 1)) 1
  | none => 1
def deeps (nodes : List GNode) : Nat → List Int
  | 0 => []
  | n + 1 => deeps nodes n ++ [dstep nodes (deeps nodes n) n]
def okU (nodes : List GNode) : Nat → Bool
  | 0 => true
  | n + 1 => okU nodes n && (nodeB nodes n && decide (dstep nodes (deeps nodes n) n ≤ 10))
def dval (nodes : List GNode) (k : Nat) : Int := dstep nodes (deeps nodes k) k
theorem deeps_len (nodes : List GNode) : ∀ n, (deeps nodes n).length = n
  | 0 => rfl
  | n + 1 => by simp [deeps, deeps_len nodes n]
theorem deeps_get (nodes : List GNode) : ∀ (n j : Nat), j < n → (deeps nodes n)[j]? = some (dval nodes j)
  | 0, j, h => by omega
  | n + 1, j, h => by
    simp only [deeps]
    rcases Nat.lt_or_ge j n with h1 | h1
    · rw [List.getElem?_append_left (by rw [deeps_len]; exact h1)]
      exact deeps_get nodes n j h1
    · have : j = n := by omega
      subst this
      rw [List.getElem?_append_right (by rw [deeps_len]; omega), deeps_len]
      simp [dval]
theorem okU_mono {nodes : List GNode} : ∀ {n m : Nat}, m ≤ n → okU nodes n = true → okU nodes m = true
  | 0, m, h, h1 => by have : m = 0 := by omega
                      subst this; rfl
  | n + 1, m, h, h1 => by
    by_cases e : m = n + 1
    · subst e; exact h1
    · simp only [okU, Bool.and_eq_true] at h1
      exact okU_mono (by omega) h1.1
theorem okU_at {nodes : List GNode} {n j : Nat} (h : okU nodes n = true) (hj : j < n) : nodeB nodes j = true ∧ dval nodes j ≤ 10 := by
  have := okU_mono (show j + 1 ≤ n by omega) h
  simp only [okU, Bool.and_eq_true, decide_eq_true_eq] at this
  exact this.2
theorem mx_ge (l : List Int) (g : Int → Int) : ∀ d, d ≤ l.foldl (fun d kid => mx d (g kid)) d ∧ ∀ kid ∈ l, g kid ≤ l.foldl (fun d kid => mx d (g kid)) d := by
  induction l with
  | nil => intro d; simp
  | cons x l ih =>
    intro d
    rw [List.foldl_cons]
    obtain ⟨h1, h2⟩ := ih (mx d (g x))
    have h3 : d ≤ mx d (g x) ∧ g x ≤ mx d (g x) := by unfold mx; split <;> omega
    refine ⟨by omega, fun kid hk => ?_⟩
    rcases List.mem_cons.1 hk with rfl | hk
    · omega
    · exact h2 kid hk
theorem dval_pos (nodes : List GNode) (k : Nat) : 1 ≤ dval nodes k := by
  unfold dval dstep
  split
  · exact (mx_ge _ _ 1).1
  · omega
theorem nodeB_get {nodes : List GNode} {k : Nat} (h : nodeB nodes k = true) : ∃ (hk : k < nodes.length), inB nodes[k].Kind 1 20 = true ∧ inB nodes[k].Kids.length (shapeB nodes[k].Kind).1 (shapeB nodes[k].Kind).2 = true ∧ (∀ (i : Nat) (hi : i < nodes[k].Kids.length), (0 ≤ nodes[k].Kids[i] ∧ nodes[k].Kids[i] < k) ∧ ¬ nodes[k].Kids[i] ∈ nodes[k].Kids.take i ∧ ∃ y, nodes[(nodes[k].Kids[i]).toNat]? = some y ∧ fitsB nodes[k].Kind i y.Kind = true) ∧ numNB nodes[k] = true ∧ nameNB nodes[k] = true := by
  unfold nodeB at h
  split at h
  · cases h
  · rename_i x hx
    obtain ⟨hk, hxe⟩ := List.getElem?_eq_some_iff.1 hx
    subst hxe
    simp only [Bool.and_eq_true] at h
    obtain ⟨h1, h2, h3, h4, h5⟩ := h
    refine ⟨hk, h1, h2, fun i hi => ?_, h4, h5⟩
    have := List.all_eq_true.1 h3 i (List.mem_range.2 hi)
    rw [kidB_at hi] at this
    simp only [Bool.and_eq_true, inB_iff, Bool.not_eq_true', List.contains_eq_mem, decide_eq_false_iff_not] at this
    obtain ⟨g1, g2, g3⟩ := this
    refine ⟨⟨g1.1, by omega⟩, g2, ?_⟩
    split at g3
    · rename_i y hy; exact ⟨y, hy, g3⟩
    · cases g3
theorem nodeB_kids {nodes : List GNode} {k : Nat} (h : nodeB nodes k = true) {x : GNode} (hx : nodes[k]? = some x) : ∀ kid ∈ x.Kids, 0 ≤ kid ∧ kid < k := by
  obtain ⟨hk, _, _, h3, _⟩ := nodeB_get h
  obtain ⟨_, hxe⟩ := List.getElem?_eq_some_iff.1 hx
  subst hxe
  intro kid hm
  obtain ⟨i, hi, rfl⟩ := List.mem_iff_getElem.1 hm
  exact (h3 i hi).1
theorem nodeB_kidlen {nodes : List GNode} {k : Nat} (h : nodeB nodes k = true) {x : GNode} (hx : nodes[k]? = some x) : x.Kids.length ≤ 12 := by
  obtain ⟨hk, _, h2, _⟩ := nodeB_get h
  obtain ⟨_, hxe⟩ := List.getElem?_eq_some_iff.1 hx
  subst hxe
  have := inB_iff.1 h2
  have := shape_hi nodes[k].Kind
  omega
theorem dval_kid {nodes : List GNode} {k : Nat} (h : nodeB nodes k = true) {x : GNode} (hx : nodes[k]? = some x) {kid : Int} (hm : kid ∈ x.Kids) : dval nodes kid.toNat < dval nodes k := by
  have hb := nodeB_kids h hx kid hm
  have : dval nodes k = x.Kids.foldl (fun d kid => mx d ((deeps nodes k).getD kid.toNat 0 + 1)) 1 := by unfold dval dstep; rw [hx]
  rw [this]
  have h2 := (mx_ge x.Kids (fun kid => (deeps nodes k).getD kid.toNat 0 + 1) 1).2 kid hm
  have h3 : (deeps nodes k).getD kid.toNat 0 = dval nodes kid.toNat := by
    rw [List.getD_eq_getElem?_getD, deeps_get nodes k kid.toNat (by omega)]; rfl
  rw [h3] at h2
  omega
theorem impl_dloop (nodes : List GNode) (k : Nat) (x : GNode) (hx : nodes[k]? = some x) (hok : okU nodes k = true) (hn : nodeB nodes k = true) : loopP (impl_depths_l2 (deeps nodes k) x) (1, 0) = some (dval nodes k) := by
  have hkl := nodeB_kidlen hn hx
  have hkb := nodeB_kids hn hx
  have hg : ∀ kid ∈ x.Kids, (deeps nodes k).getD kid.toNat 0 = dval nodes kid.toNat := fun kid hm => by
    have := hkb kid hm
    rw [List.getD_eq_getElem?_getD, deeps_get nodes k kid.toNat (by omega)]; rfl
  have := loopP_fold x.Kids (fun (d : Int) j => (d, (j : Int))) (fun j d => True) (fun d kid => .inl (mx d ((deeps nodes k).getD kid.toNat 0 + 1))) id (impl_depths_l2 (deeps nodes k) x) (fun d j hj _ => by
    left
    have hm := List.getElem_mem hj
    have hb := hkb _ hm
    have hd := okU_at hok (show x.Kids[j].toNat < k by omega)
    have hp := dval_pos nodes x.Kids[j].toNat
    refine ⟨_, rfl, ?_, trivial⟩
    have hlt : x.Kids[j].toNat < (deeps nodes k).length := by rw [deeps_len]; omega
    have hge : (deeps nodes k)[x.Kids[j].toNat] = dval nodes x.Kids[j].toNat := by
      have := deeps_get nodes k x.Kids[j].toNat (by omega)
      rw [List.getElem?_eq_getElem hlt] at this
      exact Option.some.inj this
    simp only [impl_depths_l2, ofNat_lt_true hj, if_true, getI_at hj, Option.bind_some]
    rw [getI_in hb.1 (by rw [deeps_len]; omega), hge]
    simp only [Option.bind_some, w64 (n := dval nodes x.Kids[j].toNat + 1) (by omega) (by omega), w64_nat hj (by omega), hg _ hm]
    rfl) (fun d _ => by simp [impl_depths_l2]) 1 trivial
  rw [foldE_inl] at this
  unfold dval dstep
  rw [hx]
  exact this
theorem impl_depths_eq (nodes : List GNode) (hn : nodes.length ≤ 1048576) (k : Int) : impl_depths nodes k = some (if 0 ≤ k ∧ k < nodes.length ∧ okU nodes (k.toNat + 1) = true then (deeps nodes (k.toNat + 1), true) else ([], false)) := by
  unfold impl_depths
  simp only [impl_in_eq, Option.bind_some, w64_pred hn]
  by_cases hi : inB k 0 ((nodes.length : Int) - 1) = true
  · have hi' := inB_iff.1 hi
    have hkk : k = ((k.toNat : Nat) : Int) := by omega
    have hk : k.toNat < nodes.length := by omega
    generalize k.toNat = m at *
    subst hkk
    simp only [hi, Bool.not_true, Bool.false_eq_true, if_false]
    obtain ⟨r, h1, h2⟩ := loopP_run (f := impl_depths_l1 nodes m) (fun s : List Int × Int => ∃ i : Nat, s.2 = i ∧ i ≤ m + 1 ∧ s.1 = deeps nodes i ∧ okU nodes i = true) (fun s => m + 1 - s.2.toNat) (fun r => r = if okU nodes (m + 1) = true then Sum.inl (deeps nodes (m + 1)) else Sum.inr ([], false)) (by
      rintro ⟨out, i⟩ ⟨i, rfl, hle, ho, hok⟩
      simp only at ho hle
      subst ho
      by_cases hlt : i ≤ m
      · have hd : decide ((i : Int) ≤ (m : Int)) = true := by simp only [decide_eq_true_eq]; omega
        have hil : i < nodes.length := by omega
        simp only [impl_depths_l1, hd, if_true, impl_NodeOk_eq nodes hn, Option.bind_some, Int.toNat_natCast]
        have h0 : decide ((0 : Int) ≤ (i : Int)) = true := by simp
        rw [h0, Bool.true_and]
        cases hnb : nodeB nodes i with
        | false =>
          right
          refine ⟨.inr ([], false), by simp, ?_⟩
          have : okU nodes (m + 1) = false := by
            rw [Bool.eq_false_iff]
            intro h
            rw [(okU_at h (show i < m + 1 by omega)).1] at hnb
            cases hnb
          rw [this]; rfl
        | true =>
          simp only [Bool.not_true, Bool.false_eq_true, if_false, getI_at hil, Option.bind_some]
          rw [impl_dloop nodes i _ (List.getElem?_eq_getElem hil) hok hnb]
          simp only [Option.bind_some]
          by_cases hd10 : dval nodes i > 10
          · right
            rw [if_pos (by simpa using hd10)]
            refine ⟨.inr ([], false), rfl, ?_⟩
            have : okU nodes (m + 1) = false := by
              rw [Bool.eq_false_iff]
              intro h
              have := (okU_at h (show i < m + 1 by omega)).2
              omega
            rw [this]; rfl
          · left
            rw [if_neg (by simpa using hd10), app1 (by rw [deeps_len]; omega) (by omega)]
            refine ⟨(deeps nodes (i + 1), ((i + 1 : Nat) : Int)), ?_, ⟨i + 1, rfl, by omega, rfl, ?_⟩, by simp only [Int.toNat_natCast]; omega⟩
            · simp only [Option.bind_some, w64_nat hil hn]
              rfl
            · simp only [okU, hok, hnb, Bool.true_and, decide_eq_true_eq]
              show dval nodes i ≤ 10
              omega
      · right
        have : i = m + 1 := by omega
        subst this
        have hd : decide (((m + 1 : Nat) : Int) ≤ (m : Int)) = false := by simp only [decide_eq_false_iff_not]; omega
        refine ⟨.inl (deeps nodes (m + 1)), by simp only [impl_depths_l1, hd, Bool.false_eq_true, if_false], ?_⟩
        rw [hok]; rfl) ([], 0) ⟨0, rfl, by omega, rfl, rfl⟩
    rw [h1, h2]
    by_cases hok : okU nodes (m + 1) = true
    · rw [if_pos hok, if_pos (show 0 ≤ (m : Int) ∧ (m : Int) < nodes.length ∧ okU nodes (m + 1) = true from ⟨by omega, by omega, hok⟩)]; rfl
    · rw [if_neg hok, if_neg (show ¬ (0 ≤ (m : Int) ∧ (m : Int) < nodes.length ∧ okU nodes (m + 1) = true) from fun h => hok h.2.2)]; rfl
  · have hi' := inB_false.1 (Bool.eq_false_iff.2 hi)
    simp only [Bool.eq_false_iff.2 hi, Bool.not_false, if_true]
    rw [if_neg (show ¬ (0 ≤ k ∧ k < nodes.length ∧ okU nodes (k.toNat + 1) = true) from fun h => hi' ⟨h.1, by omega⟩)]
def deepB (nodes : List GNode) (k : Int) : Int := if 0 ≤ k ∧ k < nodes.length ∧ okU nodes (k.toNat + 1) = true then dval nodes k.toNat else 0
theorem impl_DeepOf_eq (nodes : List GNode) (hn : nodes.length ≤ 1048576) (k : Int) : impl_DeepOf nodes k = some (deepB nodes k) := by
  unfold impl_DeepOf deepB
  rw [impl_depths_eq nodes hn]
  by_cases h : 0 ≤ k ∧ k < nodes.length ∧ okU nodes (k.toNat + 1) = true
  · rw [if_pos h, if_pos h]
    have hlt : k.toNat < (deeps nodes (k.toNat + 1)).length := by rw [deeps_len]; omega
    simp only [Option.bind_some, Bool.not_true, Bool.false_eq_true, if_false]
    rw [getI_in h.1 (by rw [deeps_len]; omega)]
    have := deeps_get nodes (k.toNat + 1) k.toNat (by omega)
    rw [List.getElem?_eq_getElem hlt] at this
    simp only [Option.bind_some]
    exact this
  · rw [if_neg h, if_neg h]; rfl
def sdeeps (nodes : List GNode) (n : Nat) : List Int := (List.range n).map fun j => if okU nodes (j + 1) = true then dval nodes j else 0
theorem sdeeps_len (nodes : List GNode) (n : Nat) : (sdeeps nodes n).length = n := by simp [sdeeps]
theorem sdeeps_get (nodes : List GNode) {n j : Nat} (h : j < n) : (sdeeps nodes n)[j]? = some (if okU nodes (j + 1) = true then dval nodes j else 0) := by
  unfold sdeeps
  rw [List.getElem?_map, List.getElem?_range h]; rfl
theorem sdeeps_ok {nodes : List GNode} {n : Nat} (h : okU nodes n = true) : sdeeps nodes n = deeps nodes n := by
  apply List.ext_getElem?
  intro j
  by_cases hj : j < n
  · rw [sdeeps_get nodes hj, deeps_get nodes n j hj, if_pos (okU_mono (by omega) h)]
  · rw [List.getElem?_eq_none (by rw [sdeeps_len]; omega), List.getElem?_eq_none (by rw [deeps_len]; omega)]
theorem spec_dloop (nodes : List GNode) (k : Nat) (hk : k < nodes.length) (hok : okU nodes k = true) (hn : nodeB nodes k = true) : loopP (spec_l04Deeps_l2 nodes (deeps nodes k) k) (1, 0) = some (dval nodes k) := by
  have hx : nodes[k]? = some nodes[k] := List.getElem?_eq_getElem hk
  generalize hgx : nodes[k] = x at *
  have hkl := nodeB_kidlen hn hx
  have hkb := nodeB_kids hn hx
  have hg : ∀ kid ∈ x.Kids, (deeps nodes k).getD kid.toNat 0 = dval nodes kid.toNat := fun kid hm => by
    have := hkb kid hm
    rw [List.getD_eq_getElem?_getD, deeps_get nodes k kid.toNat (by omega)]; rfl
  have hgk : getI nodes (k : Int) = some x := by rw [getI_at hk, hgx]
  have := loopP_fold x.Kids (fun (d : Int) j => (d, (j : Int))) (fun j d => 0 < d) (fun d kid => .inl (mx d ((deeps nodes k).getD kid.toNat 0 + 1))) id (spec_l04Deeps_l2 nodes (deeps nodes k) k) (fun d j hj hpos => by
    left
    have hm := List.getElem_mem hj
    have hb := hkb _ hm
    have hd := okU_at hok (show x.Kids[j].toNat < k by omega)
    have hp := dval_pos nodes x.Kids[j].toNat
    refine ⟨_, rfl, ?_, by unfold mx; split <;> omega⟩
    have hlt : x.Kids[j].toNat < (deeps nodes k).length := by rw [deeps_len]; omega
    have hge : (deeps nodes k)[x.Kids[j].toNat] = dval nodes x.Kids[j].toNat := by
      have := deeps_get nodes k x.Kids[j].toNat (by omega)
      rw [List.getElem?_eq_getElem hlt] at this
      exact Option.some.inj this
    have hp0 : decide (d > 0) = true := by simpa using hpos
    have hgi : getI (deeps nodes k) x.Kids[j] = some (dval nodes x.Kids[j].toNat) := by rw [getI_in hb.1 (by rw [deeps_len]; omega), hge]
    simp only [spec_l04Deeps_l2, hp0, if_true, hgk, Option.bind_some, ofNat_lt_true hj, getI_at hj, hgi, w64 (n := dval nodes x.Kids[j].toNat + 1) (by omega) (by omega), w64_nat hj (by omega), hg _ hm]
    unfold mx
    by_cases hgt : dval nodes x.Kids[j].toNat + 1 > d
    · rw [if_pos (by simpa using hgt), if_pos hgt]
    · rw [if_neg (by simpa using hgt), if_neg hgt]) (fun d hd => by
    have hp0 : decide (d > 0) = true := by simpa using hd
    simp [spec_l04Deeps_l2, hp0, hgk]) 1 (by omega)
  rw [foldE_inl] at this
  unfold dval dstep
  rw [hx]
  exact this
theorem spec_Deeps_eq (nodes : List GNode) (hn : nodes.length ≤ 1048576) (k : Nat) (hk : k < nodes.length) : spec_l04Deeps nodes k = some (sdeeps nodes (k + 1)) := by
  unfold spec_l04Deeps
  obtain ⟨r, h1, h2⟩ := loopP_run (f := spec_l04Deeps_l1 nodes k) (fun s : List Int × Int => ∃ i : Nat, s.2 = i ∧ i ≤ k + 1 ∧ s.1 = sdeeps nodes i) (fun s => k + 1 - s.2.toNat) (fun r => r = sdeeps nodes (k + 1)) (by
    rintro ⟨out, i⟩ ⟨i, rfl, hle, ho⟩
    simp only at ho hle
    subst ho
    by_cases hlt : i ≤ k
    · left
      have hd : decide ((i : Int) ≤ (k : Int)) = true := by simp only [decide_eq_true_eq]; omega
      have hil : i < nodes.length := by omega
      have hd2 : decide ((i : Int) < (nodes.length : Int)) = true := by simp only [decide_eq_true_eq]; omega
      have h0 : decide ((0 : Int) ≤ (i : Int)) = true := by simp
      refine ⟨(sdeeps nodes (i + 1), ((i + 1 : Nat) : Int)), ?_, ⟨i + 1, rfl, by omega, rfl⟩, by simp only [Int.toNat_natCast]; omega⟩
      simp only [spec_l04Deeps_l1, hd, hd2, if_true, spec_NodeOk_eq nodes hn, Option.bind_some, Int.toNat_natCast, h0, Bool.true_and]
      -- is it right so far?
      have hflag : (if (!(nodeB nodes i)) = true then some true else if (decide ((i : Int) > 0)) = true then (getI (sdeeps nodes i) (IntKind.wrap .i64 ((i : Int) - 1))).bind fun e32 => some (e32 == 0) else some false) = some (!(nodeB nodes i && okU nodes i)) := by
        cases hnb : nodeB nodes i with
        | false => rfl
        | true =>
          simp only [Bool.not_true, Bool.false_eq_true, if_false, Bool.true_and]
          by_cases hz : i = 0
          · subst hz; rfl
          · have hp : decide ((i : Int) > 0) = true := by simp only [decide_eq_true_eq]; omega
            have hw : IntKind.wrap .i64 ((i : Int) - 1) = ((i - 1 : Nat) : Int) := by rw [w64 (by omega) (by omega)]; omega
            rw [if_pos hp, hw, getI_nat, sdeeps_get nodes (show i - 1 < i by omega), show i - 1 + 1 = i by omega]
            simp only [Option.bind_some]
            cases hok : okU nodes i with
            | true =>
              have := dval_pos nodes (i - 1)
              have hne : ¬ dval nodes (i - 1) = 0 := by omega
              simp [hne]
            | false => simp
      rw [hflag]
      simp only [Option.bind_some]
      have hfin : (Option.bind (if (!(nodeB nodes i && okU nodes i)) = true then some 0 else some (1 : Int)) fun deep36 => Option.bind (loopP (spec_l04Deeps_l2 nodes (sdeeps nodes i) i) (deep36, 0)) fun deep62 => Option.bind (if (decide (deep62 > 10)) = true then some 0 else some deep62) fun deep68 => (appI 8 (sdeeps nodes i) [deep68]).bind fun l69 => some l69) = some (sdeeps nodes (i + 1)) := by
        have hsucc : sdeeps nodes (i + 1) = sdeeps nodes i ++ [if okU nodes (i + 1) = true then dval nodes i else 0] := by
          unfold sdeeps; rw [List.range_succ, List.map_append]; rfl
        have happ : ∀ z : Int, appI 8 (sdeeps nodes i) [z] = some (sdeeps nodes i ++ [z]) := fun z => app1 (by rw [sdeeps_len]; omega) (by omega)
        cases hb : (nodeB nodes i && okU nodes i) with
        | true =>
          simp only [Bool.and_eq_true] at hb
          simp only [Bool.not_true, Bool.false_eq_true, if_false, Option.bind_some]
          rw [sdeeps_ok hb.2, spec_dloop nodes i hil hb.2 hb.1, ← sdeeps_ok hb.2]
          simp only [Option.bind_some]
          rw [hsucc]
          by_cases hd10 : dval nodes i > 10
          · have hf : okU nodes (i + 1) = false := by
              rw [Bool.eq_false_iff]
              intro h
              have := (okU_at h (Nat.lt_succ_self i)).2
              omega
            rw [if_pos (by simpa using hd10), hf]
            simp only [Option.bind_some, happ, Bool.false_eq_true, if_false]
          · have hf : okU nodes (i + 1) = true := by
              simp only [okU, hb.1, hb.2, Bool.true_and, decide_eq_true_eq]
              show dval nodes i ≤ 10
              omega
            rw [if_neg (by simpa using hd10), hf]
            simp only [Option.bind_some, happ, if_true]
        | false =>
          have hf : okU nodes (i + 1) = false := by
            rw [Bool.eq_false_iff]
            intro h
            simp only [okU, Bool.and_eq_true] at h
            rw [h.1, h.2.1] at hb
            cases hb
          simp only [Bool.not_false, if_true, Option.bind_some]
          rw [loopP_inr (r := (0 : Int)) (by simp [spec_l04Deeps_l2])]
          simp only [Option.bind_some]
          rw [hsucc, hf]
          simp [happ]
      have := congrArg (fun z => Option.bind z fun out70 : List Int => (some (Sum.inl (out70, IntKind.wrap .i64 ((i : Int) + 1))) : Option ((List Int × Int) ⊕ List Int))) hfin
      simp only [Option.bind_some, w64_nat hil hn] at this
      rw [w64_nat hil hn]
      exact this
    · right
      have : i = k + 1 := by omega
      subst this
      have hd : decide (((k + 1 : Nat) : Int) ≤ (k : Int)) = false := by simp only [decide_eq_false_iff_not]; omega
      exact ⟨_, by simp only [spec_l04Deeps_l1, hd, Bool.false_eq_true, if_false, Option.bind_some], rfl⟩) ([], 0) ⟨0, rfl, by omega, rfl⟩
  rw [h1, h2]
  rfl
theorem spec_DeepOf_eq (nodes : List GNode) (hn : nodes.length ≤ 1048576) (k : Int) : spec_DeepOf nodes k = some (deepB nodes k) := by
  unfold spec_DeepOf deepB
  simp only [spec_in_eq, Option.bind_some, w64_pred hn]
  by_cases hi : inB k 0 ((nodes.length : Int) - 1) = true
  · have hi' := inB_iff.1 hi
    have hkk : k = ((k.toNat : Nat) : Int) := by omega
    have hk : k.toNat < nodes.length := by omega
    generalize k.toNat = m at *
    subst hkk
    simp only [hi, Bool.not_true, Bool.false_eq_true, if_false]
    rw [spec_Deeps_eq nodes hn m hk]
    simp only [Option.bind_some, getI_nat]
    rw [sdeeps_get nodes (Nat.lt_succ_self m)]
    by_cases hok : okU nodes (m + 1) = true
    · rw [if_pos hok, if_pos (show 0 ≤ (m : Int) ∧ (m : Int) < nodes.length ∧ okU nodes (m + 1) = true from ⟨by omega, by omega, hok⟩)]; rfl
    · rw [if_neg hok, if_neg (show ¬ (0 ≤ (m : Int) ∧ (m : Int) < nodes.length ∧ okU nodes (m + 1) = true) from fun h => hok h.2.2)]; rfl
  · have hi' := inB_false.1 (Bool.eq_false_iff.2 hi)
    simp only [Bool.eq_false_iff.2 hi, Bool.not_false, if_true]
    rw [if_neg (show ¬ (0 ≤ k ∧ k < nodes.length ∧ okU nodes (k.toNat + 1) = true) from fun h => hi' ⟨h.1, by omega⟩)]
end Go.OM
set_option linter.unusedVariables false
set_option linter.unusedSimpArgs false
namespace Go.OM
theorem recFuel_eq : recFuel = 1048576 := rfl
theorem deepB_zero {nodes : List GNode} {k : Int} (h : deepB nodes k ≠ 0) : 0 ≤ k ∧ k < nodes.length ∧ okU nodes (k.toNat + 1) = true := by
  unfold deepB at h
  split at h
  · assumption
  · exact absurd rfl h
end Go.OM
set_option linter.unusedVariables false
set_option linter.unusedSimpArgs false
namespace Go.OM
def fnAtQ (p : GProgram) (nm : ByteArray) (k : Nat) : Option Int := match p.Fns[k]? with
  | some f => if sEq f.Name nm = true then some (k : Int) else none
  | none => none
def fnAtB (p : GProgram) (nm : ByteArray) : Int := ((List.range p.Fns.length).findSome? (fnAtQ p nm)).getD (-1)
theorem impl_FnAt_eq (p : GProgram) (nm : ByteArray) (hp : p.Fns.length ≤ 1048576) : impl_FnAt p nm = some (fnAtB p nm) := by
  unfold impl_FnAt fnAtB
  rw [find_range p.Fns.length (fnAtQ p nm) (impl_FnAt_l1 p nm) (fun k hk => by
    simp only [impl_FnAt_l1, ofNat_lt_true hk, if_true, getI_at hk, Option.bind_some, w64_nat hk hp]
    unfold fnAtQ
    rw [List.getElem?_eq_getElem hk]
    cases h : sEq p.Fns[k].Name nm <;> simp [h]) (by simp [impl_FnAt_l1])]
  cases (List.range p.Fns.length).findSome? (fnAtQ p nm) <;> rfl
theorem spec_FnAt_eq (p : GProgram) (nm : ByteArray) (hp : p.Fns.length ≤ 1048576) : spec_FnAt p nm = some (fnAtB p nm) := impl_FnAt_eq p nm hp
structure Bd (n : Nat) (C : Int) (m : List Int) : Prop where
  len : m.length = n
  bnd : ∀ v ∈ m, 0 ≤ v ∧ v ≤ C
theorem Bd.mono {n : Nat} {C C' : Int} {m : List Int} (h : Bd n C m) (hc : C ≤ C') : Bd n C' m := ⟨h.len, fun v hv => by have := h.bnd v hv; omega⟩
theorem Bd.getD {n : Nat} {C : Int} {m : List Int} (h : Bd n C m) (hC : 0 ≤ C) (k : Nat) : 0 ≤ m.getD k 0 ∧ m.getD k 0 ≤ C := by
  rw [List.getD_eq_getElem?_getD]
  cases hk : m[k]? with
  | none => exact ⟨Int.le_refl 0, hC⟩
  | some v => exact h.bnd v (List.mem_of_getElem? hk)
theorem Bd.set {n : Nat} {C d : Int} {m : List Int} (h : Bd n C m) (hC : 0 ≤ C) (hd : 0 ≤ d) (k : Nat) : Bd n (C + d) (m.set k (m.getD k 0 + d)) := ⟨by rw [List.length_set]; exact h.len, fun v hv => by
  rcases List.mem_or_eq_of_mem_set hv with h1 | h1
  · have := h.bnd v h1; omega
  · have := h.getD hC k; omega⟩
end Go.OM
set_option linter.unusedVariables false
set_option linter.unusedSimpArgs false
namespace Go.OM
open Classical in
noncomputable def setL (n : Nat) (P : Nat → Prop) : List Int := ((List.range n).filter fun j => decide (P j)).map fun k : Nat => (k : Int)
theorem mem_setL {n : Nat} {P : Nat → Prop} {x : Int} : x ∈ setL n P ↔ 0 ≤ x ∧ x < n ∧ P x.toNat := by
  unfold setL
  rw [List.mem_map]
  constructor
  · rintro ⟨j, hj, rfl⟩
    obtain ⟨h1, h2⟩ := List.mem_filter.1 hj
    have := List.mem_range.1 h1
    exact ⟨by omega, by omega, by simpa using h2⟩
  · rintro ⟨h1, h2, h3⟩
    refine ⟨x.toNat, List.mem_filter.2 ⟨List.mem_range.2 (by omega), by simpa using h3⟩, by omega⟩
theorem setL_lt (n : Nat) (P : Nat → Prop) : (setL n P).Pairwise (· < ·) := by
  unfold setL
  refine List.Pairwise.map _ (fun a b h => ?_) (List.Pairwise.filter _ List.pairwise_lt_range)
  omega
theorem setL_len (n : Nat) (P : Nat → Prop) : (setL n P).length ≤ n := by
  unfold setL
  rw [List.length_map]
  have := List.length_filter_le (fun j => @decide (P j) (Classical.propDecidable _)) (List.range n)
  rw [List.length_range] at this
  exact this
theorem lt_nodup {l : List Int} (h : l.Pairwise (· < ·)) : l.Nodup := by
  rw [List.nodup_iff_pairwise_ne]
  exact h.imp fun h => by omega
theorem lt_unique {a b : List Int} (ha : a.Pairwise (· < ·)) (hb : b.Pairwise (· < ·)) (h : ∀ x, x ∈ a ↔ x ∈ b) : a = b := by
  refine List.Perm.eq_of_pairwise (le := fun x y : Int => x < y) (fun x y _ _ h1 h2 => by omega) ha hb ?_
  exact (List.perm_ext_iff_of_nodup (lt_nodup ha) (lt_nodup hb)).2 h
theorem setL_congr {n : Nat} {P Q : Nat → Prop} (h : ∀ j, j < n → (P j ↔ Q j)) : setL n P = setL n Q := by
  refine lt_unique (setL_lt _ _) (setL_lt _ _) fun x => ?_
  rw [mem_setL, mem_setL]
  constructor
  · rintro ⟨h1, h2, h3⟩; exact ⟨h1, h2, (h _ (by omega)).1 h3⟩
  · rintro ⟨h1, h2, h3⟩; exact ⟨h1, h2, (h _ (by omega)).2 h3⟩
theorem setL_eq {n : Nat} {P : Nat → Prop} {l : List Int} (hl : l.Pairwise (· < ·)) (h : ∀ x, x ∈ l ↔ 0 ≤ x ∧ x < n ∧ P x.toNat) : l = setL n P := lt_unique hl (setL_lt _ _) fun x => by rw [h, mem_setL]
theorem sort_setL {n : Nat} {P : Nat → Prop} {l : List Int} (hl : l.Nodup) (h : ∀ x, x ∈ l ↔ 0 ≤ x ∧ x < n ∧ P x.toNat) : (l.mergeSort fun x y => decide (x ≤ y)) = setL n P := by
  have hp := List.mergeSort_perm l (fun x y => decide (x ≤ y))
  have hs := List.pairwise_mergeSort (le := fun x y : Int => decide (x ≤ y)) (fun a b c h1 h2 => by simp only [decide_eq_true_eq] at *; omega) (fun a b => by simp only [Bool.or_eq_true, decide_eq_true_eq]; omega) l
  have hn : (l.mergeSort fun x y => decide (x ≤ y)).Nodup := hp.nodup_iff.2 hl
  refine setL_eq ?_ fun x => by rw [← h]; exact hp.mem_iff
  rw [List.nodup_iff_pairwise_ne] at hn
  exact (hs.and hn).imp fun ⟨h1, h2⟩ => by simp only [decide_eq_true_eq] at h1; omega
theorem nodup_len {n : Nat} {l : List Int} (hl : l.Nodup) (hb : ∀ x ∈ l, 0 ≤ x ∧ x < n) : l.length ≤ n := by
  have := hl.length_le_of_subset (l₂ := (List.range n).map fun k : Nat => (k : Int)) fun x hx => by
    have := hb x hx
    exact List.mem_map.2 ⟨x.toNat, List.mem_range.2 (by omega), by omega⟩
  simpa using this
theorem sort_some {l : List Int} (h : l.length ≤ 1048576) : sort_Ints l = some (l.mergeSort fun x y => decide (x ≤ y)) := by
  unfold sort_Ints; rw [if_pos (by omega)]
theorem addL_nodup {s : List Int} (h : s.Nodup) (x : Int) : (addL s x).Nodup := by
  unfold addL
  split
  · exact h
  · rename_i hc
    rw [List.nodup_append]
    refine ⟨h, by simp, fun a ha b hb => ?_⟩
    simp only [List.mem_singleton] at hb
    subst hb
    rintro rfl
    exact hc (by simpa using ha)
theorem foldAdd_nodup : ∀ (l : List Int) {s : List Int}, s.Nodup → (l.foldl addL s).Nodup
  | [], s, h => h
  | x :: l, s, h => foldAdd_nodup l (addL_nodup h x)
theorem addL_pre (s : List Int) (x : Int) : ∃ t, addL s x = s ++ t := by
  unfold addL
  split
  · exact ⟨[], by simp⟩
  · exact ⟨[x], rfl⟩
theorem foldAdd_pre : ∀ (l : List Int) (s : List Int), ∃ t, l.foldl addL s = s ++ t
  | [], s => ⟨[], by simp⟩
  | x :: l, s => by
    obtain ⟨t, ht⟩ := addL_pre s x
    obtain ⟨t', ht'⟩ := foldAdd_pre l (addL s x)
    exact ⟨t ++ t', by rw [List.foldl_cons, ht', ht, List.append_assoc]⟩
theorem foldAdd_bnd {n : Nat} {l s : List Int} (hs : ∀ x ∈ s, 0 ≤ x ∧ x < (n : Int)) (hl : ∀ x ∈ l, 0 ≤ x ∧ x < (n : Int)) : ∀ x ∈ l.foldl addL s, 0 ≤ x ∧ x < (n : Int) := fun x hx => by
  rcases (mem_foldl_addL x l s).1 hx with h | h
  · exact hs x h
  · exact hl x h
theorem add_loop {ρ : Type} (n : Nat) (l : List Int) (hl : ∀ x ∈ l, 0 ≤ x ∧ x < (n : Int)) (f : List Int × Int → Option ((List Int × Int) ⊕ ρ)) (fin : List Int → ρ)
    (hf : ∀ (o : List Int) (k : Nat) (hk : k < l.length), o.length ≤ n → f (o, k) = some (.inl (addL o l[k], ((k + 1 : Nat) : Int))))
    (he : ∀ o, f (o, l.length) = some (.inr (fin o))) (o : List Int) (ho : o.Nodup) (hb : ∀ x ∈ o, 0 ≤ x ∧ x < (n : Int)) : loopP f (o, 0) = some (fin (l.foldl addL o)) := by
  have := loopP_fold l (fun (s : List Int) k => (s, (k : Int))) (fun k s => s.Nodup ∧ ∀ x ∈ s, 0 ≤ x ∧ x < (n : Int)) (fun s e => .inl (addL s e)) fin f (fun s k hk hI => by
    left
    refine ⟨_, rfl, hf s k hk (nodup_len hI.1 hI.2), addL_nodup hI.1 _, fun x hx => ?_⟩
    rcases mem_addL.1 hx with h | h
    · exact hI.2 x h
    · subst h; exact hl _ (List.getElem_mem hk)) (fun s _ => he s) o ⟨ho, hb⟩
  rw [foldE_inl] at this
  exact this
theorem bfs_loop {ρ : Type} (n : Nat) (root : Nat) (hroot : root < n) (next : Nat → List Int) (hnx : ∀ i, Reach next root i → ∀ m ∈ next i, 0 ≤ m ∧ m < (n : Int)) (f : List Int × Int → Option ((List Int × Int) ⊕ ρ)) (fin : List Int → ρ)
    (hf : ∀ (o : List Int) (k : Nat) (hk : k < o.length), o.Nodup → (∀ x ∈ o, 0 ≤ x ∧ x < (n : Int)) → Reach next root o[k].toNat → f (o, k) = some (.inl ((next o[k].toNat).foldl addL o, ((k + 1 : Nat) : Int))))
    (he : ∀ o : List Int, o.length ≤ n → f (o, o.length) = some (.inr (fin o))) : ∃ o : List Int, loopP f ([(root : Int)], 0) = some (fin o) ∧ o.Nodup ∧ ∀ x, x ∈ o ↔ 0 ≤ x ∧ x < (n : Int) ∧ Reach next root x.toNat := by
  obtain ⟨r, h1, o, h2, h3⟩ := loopP_run (f := f) (fun s : List Int × Int => ∃ i : Nat, s.2 = i ∧ i ≤ s.1.length ∧ s.1.Nodup ∧ (root : Int) ∈ s.1 ∧ (∀ x ∈ s.1, 0 ≤ x ∧ x < (n : Int) ∧ Reach next root x.toNat) ∧ ∀ (j : Nat) (hj : j < s.1.length), j < i → ∀ m ∈ next s.1[j].toNat, m ∈ s.1) (fun s => n - s.2.toNat) (fun r => ∃ o, r = fin o ∧ o.Nodup ∧ ∀ x, x ∈ o ↔ 0 ≤ x ∧ x < (n : Int) ∧ Reach next root x.toNat) (by
    rintro ⟨o, i⟩ ⟨i, rfl, hi, hn, hr, hb, hc⟩
    simp only at hi hn hr hb hc
    have hb2 : ∀ x ∈ o, 0 ≤ x ∧ x < (n : Int) := fun x hx => ⟨(hb x hx).1, (hb x hx).2.1⟩
    have hlen := nodup_len hn hb2
    by_cases hlt : i < o.length
    · left
      have hbi := hb _ (List.getElem_mem hlt)
      have hnb := hnx _ hbi.2.2
      refine ⟨_, hf o i hlt hn hb2 hbi.2.2, ⟨i + 1, rfl, ?_, foldAdd_nodup _ hn, ?_, ?_, ?_⟩, by simp only [Int.toNat_natCast]; omega⟩
      · obtain ⟨t, ht⟩ := foldAdd_pre (next o[i].toNat) o
        simp only [ht, List.length_append]; omega
      · exact (mem_foldl_addL _ _ _).2 (.inl hr)
      · intro x hx
        rcases (mem_foldl_addL _ _ _).1 hx with h | h
        · exact hb x h
        · exact ⟨(hnb x h).1, (hnb x h).2, .step hbi.2.2 h⟩
      · intro j hj hji m hm
        obtain ⟨t, ht⟩ := foldAdd_pre (next o[i].toNat) o
        simp only at hj hm ⊢
        have hjo : j < o.length := by omega
        have hg : ((next o[i].toNat).foldl addL o)[j] = o[j] := by
          simp only [ht]
          exact List.getElem_append_left hjo
        rw [hg] at hm
        rw [mem_foldl_addL]
        by_cases e : j = i
        · subst e; exact .inr hm
        · exact .inl (hc j hjo (by omega) m hm)
    · right
      have : i = o.length := by omega
      subst this
      refine ⟨fin o, he o hlen, o, rfl, hn, fun x => ⟨hb x, fun ⟨h1, h2, h3⟩ => ?_⟩⟩
      have key : ∀ k, Reach next root k → (k : Int) ∈ o := by
        intro k hk
        induction hk with
        | base => exact hr
        | step hk' hm ih =>
          obtain ⟨j, hj, he⟩ := List.mem_iff_getElem.1 ih
          rename_i a m
          have hm2 : m ∈ next o[j].toNat := by rw [he, Int.toNat_natCast]; exact hm
          have := hc j hj hj m hm2
          have hmb := hb m this
          rw [show ((m.toNat : Nat) : Int) = m by omega]
          exact this
      have := key _ h3
      rwa [show ((x.toNat : Nat) : Int) = x by omega] at this) ([(root : Int)], 0) ⟨0, rfl, by simp, by simp, by simp, fun x hx => by
    simp only [List.mem_singleton] at hx
    subst hx
    exact ⟨by omega, by omega, by rw [Int.toNat_natCast]; exact .base⟩, fun j hj h => by omega⟩
  exact ⟨o, by rw [h1, h2], h3⟩
theorem scan_loop {ρ : Type} (n : Nat) (hn : n ≤ 1048576) (p : Nat → Bool) (f : List Int × Int → Option ((List Int × Int) ⊕ ρ)) (fin : List Int → ρ)
    (hf : ∀ (o : List Int) (k : Nat), o.length ≤ 1048576 → k < n → f (o, k) = some (.inl ((if p k = true then o ++ [(k : Int)] else o), ((k + 1 : Nat) : Int))))
    (he : ∀ o : List Int, f (o, n) = some (.inr (fin o))) : loopP f ([], 0) = some (fin (setL n fun k => p k = true)) := by
  obtain ⟨r, h1, h2⟩ := loopP_run (f := f) (fun s : List Int × Int => ∃ k : Nat, s.2 = k ∧ k ≤ n ∧ s.1 = ((List.range k).filter p).map fun k : Nat => (k : Int)) (fun s => n - s.2.toNat) (fun r => r = fin (((List.range n).filter p).map fun k : Nat => (k : Int))) (by
    rintro ⟨o, i⟩ ⟨k, rfl, hk, ho⟩
    simp only at ho hk
    by_cases hlt : k < n
    · left
      have hol : o.length ≤ 1048576 := by
        rw [ho, List.length_map]
        have := List.length_filter_le p (List.range k)
        rw [List.length_range] at this
        omega
      refine ⟨_, hf o k hol hlt, ⟨k + 1, rfl, by omega, ?_⟩, by simp only [Int.toNat_natCast]; omega⟩
      simp only
      rw [List.range_succ, List.filter_append, List.map_append, ← ho]
      cases hp : p k <;> simp [hp]
    · right
      have : k = n := by omega
      subst this
      exact ⟨_, he o, by rw [ho]⟩) ([], 0) ⟨0, rfl, by omega, rfl⟩
  rw [h1, h2]
  have : ((List.range n).filter p).map (fun k : Nat => (k : Int)) = setL n fun k => p k = true := by
    unfold setL
    congr 1
    refine List.filter_congr fun x _ => ?_
    simp
  rw [this]
def kidsN (nodes : List GNode) (i : Nat) : List Int := match nodes[i]? with
  | some x => x.Kids
  | none => []
theorem kidsN_at {nodes : List GNode} {i : Nat} (h : i < nodes.length) : kidsN nodes i = nodes[i].Kids := by unfold kidsN; rw [List.getElem?_eq_getElem h]
theorem kidsN_bnd {nodes : List GNode} {i : Nat} (h : nodeB nodes i = true) : (kidsN nodes i).length ≤ 12 ∧ ∀ m ∈ kidsN nodes i, 0 ≤ m ∧ m < i := by
  have hi : i < nodes.length := (nodeB_get h).1
  have hg : nodes[i]? = some nodes[i] := List.getElem?_eq_getElem hi
  rw [kidsN_at hi]
  exact ⟨nodeB_kidlen h hg, nodeB_kids h hg⟩
theorem under_le {nodes : List GNode} {k : Nat} (h : okU nodes (k + 1) = true) {j : Nat} (r : Reach (kidsN nodes) k j) : j ≤ k := by
  induction r with
  | base => exact Nat.le_refl _
  | step _ hm ih =>
    have := (kidsN_bnd (okU_at h (by omega)).1).2 _ hm
    omega
noncomputable def underB (nodes : List GNode) (k : Int) : List Int := if deepB nodes k = 0 then [] else setL nodes.length (Reach (kidsN nodes) k.toNat)
theorem underB_bnd {nodes : List GNode} {k x : Int} (h : x ∈ underB nodes k) : 0 ≤ x ∧ x < nodes.length := by
  unfold underB at h
  split at h
  · cases h
  · have := mem_setL.1 h; exact ⟨this.1, this.2.1⟩
theorem underB_lt (nodes : List GNode) (k : Int) : (underB nodes k).Pairwise (· < ·) := by
  unfold underB
  split
  · simp
  · exact setL_lt _ _
theorem impl_under_eq (nodes : List GNode) (hn : nodes.length ≤ 1048576) (k : Nat) (hk : k < nodes.length) (hok : okU nodes (k + 1) = true) : impl_under nodes k = some (setL nodes.length (Reach (kidsN nodes) k)) := by
  unfold impl_under
  have hnx : ∀ i, Reach (kidsN nodes) k i → (kidsN nodes i).length ≤ 12 ∧ ∀ m ∈ kidsN nodes i, 0 ≤ m ∧ m < (i : Int) := fun i hr => kidsN_bnd (okU_at hok (by have := under_le hok hr; omega)).1
  obtain ⟨o, g1, g2, g3⟩ := bfs_loop nodes.length k hk (kidsN nodes) (fun i hr m hm => by
    have := (hnx i hr).2 m hm
    have := under_le hok hr
    omega) (impl_under_l1 nodes) (fun o => o) (fun o i hi hnd hb hr => by
      have hbi := hb _ (List.getElem_mem hi)
      have hlt : o[i].toNat < nodes.length := by omega
      have hge : getI nodes o[i] = some nodes[o[i].toNat] := getI_in hbi.1 hbi.2
      have hol := nodup_len hnd hb
      obtain ⟨hkl, hkb⟩ := hnx _ hr
      have hle := under_le hok hr
      have hkn := kidsN_at hlt
      simp only [impl_under_l1, ofNat_lt_true hi, if_true, getI_at hi, Option.bind_some, hge]
      rw [hkn] at hkl hkb ⊢
      generalize nodes[o[i].toNat] = x at *
      rw [add_loop nodes.length x.Kids (fun m hm => by have := hkb m hm; omega) (impl_under_l2 x) (fun o => o) (fun o k hk ho => by
        have happ : appI 8 o [x.Kids[k]] = some (o ++ [x.Kids[k]]) := app1 (by omega) (by omega)
        simp only [impl_under_l2, ofNat_lt_true hk, if_true, getI_at hk, Option.bind_some, hasInt_eq o _ (by omega), w64_nat hk (show x.Kids.length ≤ 1048576 by omega), happ]
        unfold addL
        cases o.contains x.Kids[k] <;> rfl) (fun o => by simp [impl_under_l2]) o hnd hb]
      simp only [Option.bind_some, w64_nat hi (show o.length ≤ 1048576 by omega)]) (fun o ho => by simp [impl_under_l1])
  rw [g1]
  simp only [Option.bind_some]
  have hol : o.length ≤ 1048576 := by
    have := nodup_len (n := nodes.length) g2 fun x hx => ⟨((g3 x).1 hx).1, ((g3 x).1 hx).2.1⟩
    omega
  rw [sort_some hol]
  simp only [Option.bind_some]
  rw [sort_setL g2 g3]
theorem impl_Under_eq (p : GProgram) (hn : p.Nodes.length ≤ 1048576) (k : Int) : impl_Under p k = some (underB p.Nodes k) := by
  unfold impl_Under underB
  rw [impl_DeepOf_eq _ hn]
  simp only [Option.bind_some]
  by_cases hz : deepB p.Nodes k = 0
  · rw [if_pos (by simpa using hz), if_pos hz]
  · rw [if_neg (by simpa using hz), if_neg hz]
    obtain ⟨h0, h1, h2⟩ := deepB_zero hz
    have := impl_under_eq p.Nodes hn k.toNat (by omega) h2
    rw [show ((k.toNat : Nat) : Int) = k by omega] at this
    rw [this]; rfl
structure MarkR (nodes : List GNode) (k : Nat) (s s' : List Bool) : Prop where
  len : s'.length = s.length
  mono : ∀ j : Nat, s[j]? = some true → s'[j]? = some true
  self : s'[k]? = some true
  sound : ∀ j : Nat, s'[j]? = some true → s[j]? = some true ∨ Reach (kidsN nodes) k j
  closed : ∀ j : Nat, s'[j]? = some true → s[j]? = some true ∨ ∀ m ∈ kidsN nodes j, s'[m.toNat]? = some true
theorem reach_kid {next : Nat → List Int} {k : Nat} {m : Int} (hm : m ∈ next k) {j : Nat} (r : Reach next m.toNat j) : Reach next k j := by
  induction r with
  | base => exact .step .base hm
  | step _ hm' ih => exact .step ih hm'
theorem mark_main (nodes : List GNode) (hn : nodes.length ≤ 1048576) : ∀ (f k : Nat) (s : List Bool), okU nodes (k + 1) = true → dval nodes k ≤ f → s.length = nodes.length → ∃ s', spec_l04Mark_rec f nodes k s = some s' ∧ MarkR nodes k s s'
  | 0, k, s, hok, hd, hs => by have := dval_pos nodes k; omega
  | f + 1, k, s, hok, hd, hs => by
    obtain ⟨hnb, _⟩ := okU_at hok (Nat.lt_succ_self k)
    have hk : k < nodes.length := (nodeB_get hnb).1
    have hx : nodes[k]? = some nodes[k] := List.getElem?_eq_getElem hk
    have hge : getI nodes (k : Int) = some nodes[k] := getI_at hk
    obtain ⟨hkl, hkb⟩ := kidsN_bnd hnb
    have hkn := kidsN_at hk
    have hks : k < s.length := by omega
    have hkid := fun kid hm => dval_kid (kid := kid) hnb hx hm
    rw [hkn] at hkl hkb
    generalize hxe : nodes[k] = x at *
    show ∃ s', spec_l04Mark_b (spec_l04Mark_rec f) nodes k s = some s' ∧ MarkR nodes k s s'
    unfold spec_l04Mark_b
    rw [getI_at hks]
    simp only [Option.bind_some]
    by_cases hsk : s[k] = true
    · rw [if_pos hsk]
      have hsk' : s[k]? = some true := by rw [List.getElem?_eq_getElem hks, hsk]
      exact ⟨s, rfl, rfl, fun _ h => h, hsk', fun _ h => .inl h, fun _ h => .inl h⟩
    · rw [if_neg hsk]
      simp only [bindS_def, Int.toNat_natCast]
      have hs0 : (s.set k true).length = nodes.length := by rw [List.length_set]; exact hs
      have hs0k : (s.set k true)[k]? = some true := by rw [List.getElem?_set, if_pos rfl, if_pos hks]
      have hs0j : ∀ j : Nat, (s.set k true)[j]? = some true → s[j]? = some true ∨ j = k := by
        intro j h
        rw [List.getElem?_set] at h
        split at h
        · rename_i e; exact .inr e.symm
        · exact .inl h
      have hs0m : ∀ j : Nat, s[j]? = some true → (s.set k true)[j]? = some true := by
        intro j h
        rw [List.getElem?_set]
        by_cases e : k = j
        · subst e; rw [if_pos rfl, if_pos hks]
        · rw [if_neg e]; exact h
      obtain ⟨r, g1, g2⟩ := loopP_run (f := spec_l04Mark_l1 (spec_l04Mark_rec f) nodes k) (fun t : List Bool × Int => ∃ i : Nat, t.2 = i ∧ i ≤ x.Kids.length ∧ t.1.length = nodes.length ∧ (∀ j : Nat, (s.set k true)[j]? = some true → t.1[j]? = some true) ∧ (∀ j : Nat, t.1[j]? = some true → (s.set k true)[j]? = some true ∨ Reach (kidsN nodes) k j) ∧
          (∀ j : Nat, t.1[j]? = some true → (s.set k true)[j]? = some true ∨ ∀ m ∈ kidsN nodes j, t.1[m.toNat]? = some true) ∧ ∀ (q : Nat) (hq : q < x.Kids.length), q < i → t.1[(x.Kids[q]).toNat]? = some true) (fun t => x.Kids.length - t.2.toNat) (fun r => MarkR nodes k s r) (by
        rintro ⟨t, i⟩ ⟨i, rfl, hi, hl, hm, hso, hcl, hd'⟩
        simp only at hi hl hm hso hcl hd'
        by_cases hlt : i < x.Kids.length
        · left
          have hmem := List.getElem_mem hlt
          have hb := hkb _ hmem
          obtain ⟨s', r1, r2⟩ := mark_main nodes hn f (x.Kids[i]).toNat t (okU_mono (by omega) hok) (by have := hkid _ hmem; omega) hl
          rw [show (((x.Kids[i]).toNat : Nat) : Int) = x.Kids[i] by omega] at r1
          have hmk : x.Kids[i] ∈ kidsN nodes k := by rw [hkn]; exact hmem
          refine ⟨(s', ((i + 1 : Nat) : Int)), ?_, ⟨i + 1, rfl, by omega, r2.len.trans hl, fun j h => r2.mono j (hm j h), fun j h => ?_, fun j h => ?_, fun q hq hqi => ?_⟩, by simp only [Int.toNat_natCast]; omega⟩
          · simp only [spec_l04Mark_l1, hge, Option.bind_some, ofNat_lt_true hlt, if_true, getI_at hlt, r1, w64_nat hlt (show x.Kids.length ≤ 1048576 by omega)]
          · rcases r2.sound j h with h | h
            · exact hso j h
            · exact .inr (reach_kid hmk h)
          · rcases r2.closed j h with h | h
            · rcases hcl j h with h | h
              · exact .inl h
              · exact .inr fun m hm => r2.mono _ (h m hm)
            · exact .inr h
          · by_cases e : q = i
            · subst e; exact r2.self
            · exact r2.mono _ (hd' q hq (by omega))
        · right
          have : i = x.Kids.length := by omega
          subst this
          refine ⟨t, by simp [spec_l04Mark_l1, hge], hl.trans hs.symm, fun j h => hm j (hs0m j h), hm k hs0k, fun j h => ?_, fun j h => ?_⟩
          · rcases hso j h with h | h
            · rcases hs0j j h with h | h
              · exact .inl h
              · subst h; exact .inr .base
            · exact .inr h
          · rcases hcl j h with h | h
            · rcases hs0j j h with h | h
              · exact .inl h
              · subst h
                right
                intro m hm'
                rw [hkn] at hm'
                obtain ⟨q, hq, rfl⟩ := List.mem_iff_getElem.1 hm'
                exact hd' q hq hq
            · exact .inr h) (s.set k true, 0) ⟨0, rfl, by omega, hs0, fun _ h => h, fun _ h => .inl h, fun _ h => .inl h, fun q _ h => by omega⟩
      exact ⟨r, g1, g2⟩
theorem spec_Under_eq (p : GProgram) (hn : p.Nodes.length ≤ 1048576) (k : Int) : spec_Under p k = some (underB p.Nodes k) := by
  unfold spec_Under underB
  rw [spec_DeepOf_eq _ hn]
  simp only [Option.bind_some]
  by_cases hz : deepB p.Nodes k = 0
  · rw [if_pos (by simpa using hz), if_pos hz]
  · rw [if_neg (by simpa using hz), if_neg hz]
    obtain ⟨h0, h1, h2⟩ := deepB_zero hz
    rw [mkI_len _ _ _ (by omega) (by omega)]
    simp only [Option.bind_some]
    obtain ⟨s', r1, r2⟩ := mark_main p.Nodes hn recFuel k.toNat (List.replicate p.Nodes.length false) h2 (by
      have := (okU_at h2 (Nat.lt_succ_self _)).2
      rw [recFuel_eq]; omega) (by simp)
    rw [show ((k.toNat : Nat) : Int) = k by omega] at r1
    have r1' : spec_l04Mark p.Nodes k (List.replicate p.Nodes.length false) = some s' := r1
    rw [r1']
    simp only [Option.bind_some]
    have hl : s'.length = p.Nodes.length := by rw [r2.len]; simp
    have hrep : ∀ j : Nat, ¬ (List.replicate p.Nodes.length false)[j]? = some true := by
      intro j h
      rw [List.getElem?_replicate] at h
      split at h <;> simp at h
    have hiff : ∀ j, s'[j]? = some true ↔ Reach (kidsN p.Nodes) k.toNat j := by
      intro j
      constructor
      · intro h
        rcases r2.sound j h with h | h
        · exact absurd h (hrep j)
        · exact h
      · intro h
        induction h with
        | base => exact r2.self
        | step _ hm ih =>
          rcases r2.closed _ ih with h | h
          · exact absurd h (hrep _)
          · exact h _ hm
    rw [scan_loop p.Nodes.length hn (fun j => s'.getD j false) (spec_Under_l1 s') (fun o => o) (fun o j ho hj => by
      have hjs : j < s'.length := by omega
      have happ : appI 8 o [(j : Int)] = some (o ++ [(j : Int)]) := app1 ho (by omega)
      simp only [spec_Under_l1, hl, ofNat_lt_true hj, if_true, getI_at hjs, Option.bind_some, happ, w64_nat hj hn]
      rw [List.getD_eq_getElem?_getD, List.getElem?_eq_getElem hjs]
      simp only [Option.getD_some]
      cases s'[j] <;> rfl) (fun o => by simp [spec_Under_l1, hl])]
    simp only [Option.bind_some]
    congr 1
    refine setL_congr fun j hj => ?_
    rw [← hiff]
    have hjs : j < s'.length := by omega
    rw [List.getD_eq_getElem?_getD, List.getElem?_eq_getElem hjs]
    simp
end Go.OM
set_option linter.unusedVariables false
set_option linter.unusedSimpArgs false
namespace Go.OM
theorem drop_ge {L : List Int} (h : L.Pairwise (· < ·)) {i : Nat} (hi : i < L.length) {y : Int} (hy : y ∈ L.drop i) : L[i] ≤ y := by
  obtain ⟨j, hj, rfl⟩ := List.mem_iff_getElem.1 hy
  rw [List.length_drop] at hj
  rw [List.getElem_drop]
  rcases Nat.eq_zero_or_pos j with e | e
  · subst e; simp
  · have := (List.pairwise_iff_getElem.1 h) i (i + j) hi (by omega) (by omega)
    omega
theorem drop_gt {L : List Int} (h : L.Pairwise (· < ·)) {i : Nat} (hi : i < L.length) {y : Int} (hy : y ∈ L.drop (i + 1)) : L[i] < y := by
  obtain ⟨j, hj, rfl⟩ := List.mem_iff_getElem.1 hy
  rw [List.length_drop] at hj
  rw [List.getElem_drop]
  exact (List.pairwise_iff_getElem.1 h) i (i + 1 + j) hi (by omega) (by omega)
theorem take_succ_mem {L : List Int} {i : Nat} (hi : i < L.length) {x : Int} : x ∈ L.take (i + 1) ↔ x ∈ L.take i ∨ x = L[i] := by
  rw [List.take_add_one, List.getElem?_eq_getElem hi, List.mem_append]
  simp
theorem drop_succ_sub {L : List Int} {i : Nat} {x : Int} (h : x ∈ L.drop (i + 1)) : x ∈ L.drop i := by
  obtain ⟨j, hj, rfl⟩ := List.mem_iff_getElem.1 h
  rw [List.length_drop] at hj
  rw [List.getElem_drop]
  exact List.mem_iff_getElem.2 ⟨1 + j, by rw [List.length_drop]; omega, by rw [List.getElem_drop]; congr 1; omega⟩
theorem drop_self {L : List Int} {i : Nat} (hi : i < L.length) : L[i] ∈ L.drop i := by
  rw [List.drop_eq_getElem_cons hi]; exact List.mem_cons_self
theorem snoc_lt {o : List Int} {a : Int} (h : o.Pairwise (· < ·)) (hb : ∀ x ∈ o, x < a) : (o ++ [a]).Pairwise (· < ·) := by
  rw [List.pairwise_append]
  exact ⟨h, by simp, fun x hx y hy => by simp only [List.mem_singleton] at hy; subst hy; exact hb x hx⟩
theorem merge_loop (n : Nat) (hn : n ≤ 1048576) (A B : List Int) (hA : A.Pairwise (· < ·)) (hB : B.Pairwise (· < ·)) (hbA : ∀ x ∈ A, 0 ≤ x ∧ x < (n : Int)) (hbB : ∀ x ∈ B, 0 ≤ x ∧ x < (n : Int)) :
    loopP (spec_l07All_l1 A B) ([], 0, 0) = some (setL n fun j => (j : Int) ∈ A ∨ (j : Int) ∈ B) := by
  have lA := nodup_len (lt_nodup hA) hbA
  have lB := nodup_len (lt_nodup hB) hbB
  obtain ⟨r, h1, h2⟩ := loopP_run (f := spec_l07All_l1 A B) (fun s : List Int × Int × Int => ∃ i k : Nat, s.2 = ((i : Int), (k : Int)) ∧ i ≤ A.length ∧ k ≤ B.length ∧ s.1.Pairwise (· < ·) ∧ (∀ x, x ∈ s.1 ↔ x ∈ A.take i ∨ x ∈ B.take k) ∧ (∀ x ∈ s.1, ∀ y ∈ A.drop i, x < y) ∧ ∀ x ∈ s.1, ∀ y ∈ B.drop k, x < y) (fun s => (A.length - s.2.1.toNat) + (B.length - s.2.2.toNat)) (fun r => r = setL n fun j => (j : Int) ∈ A ∨ (j : Int) ∈ B) (by
    rintro ⟨o, p⟩ ⟨i, k, rfl, hi, hk, ho, hm, h3, h4⟩
    simp only at ho hm h3 h4
    have hob : ∀ x ∈ o, 0 ≤ x ∧ x < (n : Int) := fun x hx => by
      rcases (hm x).1 hx with h | h
      · exact hbA x (List.mem_of_mem_take h)
      · exact hbB x (List.mem_of_mem_take h)
    have hol := nodup_len (lt_nodup ho) hob
    have happ : ∀ a : Int, appI 8 o [a] = some (o ++ [a]) := fun a => app1 (by omega) (by omega)
    have di : decide ((i : Int) < (A.length : Int)) = decide (i < A.length) := decide_eq_decide.2 (by omega)
    have dk : decide ((k : Int) < (B.length : Int)) = decide (k < B.length) := decide_eq_decide.2 (by omega)
    have dk2 : decide ((k : Int) ≥ (B.length : Int)) = decide (¬ k < B.length) := decide_eq_decide.2 (by omega)
    have wi : IntKind.wrap .i64 ((i : Int) + 1) = ((i + 1 : Nat) : Int) := by rw [w64 (by omega) (by omega)]; omega
    have wk : IntKind.wrap .i64 ((k : Int) + 1) = ((k + 1 : Nat) : Int) := by rw [w64 (by omega) (by omega)]; omega
    -- what the step takes
    have takeA : ∀ (hia : i < A.length), (∀ hkb : k < B.length, A[i] < B[k]) → ∃ b, spec_l07All_l1 A B (o, (i : Int), (k : Int)) = some (.inl b) ∧ (∃ i' k' : Nat, b.2 = ((i' : Int), (k' : Int)) ∧ i' ≤ A.length ∧ k' ≤ B.length ∧ b.1.Pairwise (· < ·) ∧ (∀ x, x ∈ b.1 ↔ x ∈ A.take i' ∨ x ∈ B.take k') ∧ (∀ x ∈ b.1, ∀ y ∈ A.drop i', x < y) ∧ ∀ x ∈ b.1, ∀ y ∈ B.drop k', x < y) ∧ (A.length - b.2.1.toNat) + (B.length - b.2.2.toNat) < (A.length - i) + (B.length - k) := by
      intro hia hab
      refine ⟨(o ++ [A[i]], ((i + 1 : Nat) : Int), (k : Int)), ?_, ⟨i + 1, k, rfl, by omega, hk, snoc_lt ho fun x hx => h3 x hx _ (drop_self hia), fun x => ?_, fun x hx y hy => ?_, fun x hx y hy => ?_⟩, by simp only [Int.toNat_natCast]; omega⟩
      · by_cases hkb : k < B.length
        · have := hab hkb
          simp [spec_l07All_l1, di, dk, dk2, hia, hkb, getI_at hia, getI_at hkb, happ, wi, this, show ¬ B.length ≤ k by omega]
        · simp [spec_l07All_l1, di, dk, dk2, hia, hkb, getI_at hia, happ, wi, show B.length ≤ k by omega]
      · simp only [List.mem_append, List.mem_singleton, hm, take_succ_mem hia]
        constructor
        · rintro ((h | h) | h)
          · exact .inl (.inl h)
          · exact .inr h
          · exact .inl (.inr h)
        · rintro ((h | h) | h)
          · exact .inl (.inl h)
          · exact .inr h
          · exact .inl (.inr h)
      · rcases List.mem_append.1 hx with h | h
        · exact h3 x h y (drop_succ_sub hy)
        · simp only [List.mem_singleton] at h; subst h; exact drop_gt hA hia hy
      · rcases List.mem_append.1 hx with h | h
        · exact h4 x h y hy
        · simp only [List.mem_singleton] at h; subst h
          have hkb : k < B.length := by
            rcases Nat.lt_or_ge k B.length with h | h
            · exact h
            · rw [List.drop_eq_nil_of_le h] at hy; cases hy
          have := hab hkb
          have := drop_ge hB hkb hy
          omega
    by_cases hend : i < A.length ∨ k < B.length
    · left
      by_cases hkb : k < B.length
      · by_cases hia : i < A.length
        · by_cases hlt : A[i] < B[k]
          · exact takeA hia fun _ => hlt
          · by_cases heq : A[i] = B[k]
            · refine ⟨(o ++ [B[k]], ((i + 1 : Nat) : Int), ((k + 1 : Nat) : Int)), ?_, ⟨i + 1, k + 1, rfl, by omega, by omega, snoc_lt ho fun x hx => h4 x hx _ (drop_self hkb), fun x => ?_, fun x hx y hy => ?_, fun x hx y hy => ?_⟩, by simp only [Int.toNat_natCast]; omega⟩
              · simp [spec_l07All_l1, di, dk, dk2, hia, hkb, getI_at hia, getI_at hkb, happ, wi, wk, heq, show ¬ B.length ≤ k by omega]
              · simp only [List.mem_append, List.mem_singleton, hm, take_succ_mem hia, take_succ_mem hkb, heq]
                constructor
                · rintro ((h | h) | h)
                  · exact .inl (.inl h)
                  · exact .inr (.inl h)
                  · exact .inr (.inr h)
                · rintro ((h | h) | (h | h))
                  · exact .inl (.inl h)
                  · exact .inr h
                  · exact .inl (.inr h)
                  · exact .inr h
              · rcases List.mem_append.1 hx with h | h
                · exact h3 x h y (drop_succ_sub hy)
                · simp only [List.mem_singleton] at h; subst h; rw [← heq]; exact drop_gt hA hia hy
              · rcases List.mem_append.1 hx with h | h
                · exact h4 x h y (drop_succ_sub hy)
                · simp only [List.mem_singleton] at h; subst h; exact drop_gt hB hkb hy
            · refine ⟨(o ++ [B[k]], (i : Int), ((k + 1 : Nat) : Int)), ?_, ⟨i, k + 1, rfl, hi, by omega, snoc_lt ho fun x hx => h4 x hx _ (drop_self hkb), fun x => ?_, fun x hx y hy => ?_, fun x hx y hy => ?_⟩, by simp only [Int.toNat_natCast]; omega⟩
              · simp [spec_l07All_l1, di, dk, dk2, hia, hkb, getI_at hia, getI_at hkb, happ, wi, wk, heq, hlt, show ¬ B.length ≤ k by omega]
              · simp only [List.mem_append, List.mem_singleton, hm, take_succ_mem hkb, or_assoc]
              · rcases List.mem_append.1 hx with h | h
                · exact h3 x h y hy
                · simp only [List.mem_singleton] at h; subst h
                  have := drop_ge hA hia hy
                  omega
              · rcases List.mem_append.1 hx with h | h
                · exact h4 x h y (drop_succ_sub hy)
                · simp only [List.mem_singleton] at h; subst h; exact drop_gt hB hkb hy
        · refine ⟨(o ++ [B[k]], (i : Int), ((k + 1 : Nat) : Int)), ?_, ⟨i, k + 1, rfl, hi, by omega, snoc_lt ho fun x hx => h4 x hx _ (drop_self hkb), fun x => ?_, fun x hx y hy => ?_, fun x hx y hy => ?_⟩, by simp only [Int.toNat_natCast]; omega⟩
          · simp [spec_l07All_l1, di, dk, dk2, hia, hkb, getI_at hkb, happ, wi, wk, show ¬ B.length ≤ k by omega]
          · simp only [List.mem_append, List.mem_singleton, hm, take_succ_mem hkb, or_assoc]
          · rw [List.drop_eq_nil_of_le (by omega)] at hy; cases hy
          · rcases List.mem_append.1 hx with h | h
            · exact h4 x h y (drop_succ_sub hy)
            · simp only [List.mem_singleton] at h; subst h; exact drop_gt hB hkb hy
      · exact takeA (by omega) fun h => absurd h hkb
    · right
      have hi' : i = A.length := by omega
      have hk' : k = B.length := by omega
      refine ⟨o, by simp [spec_l07All_l1, hi', hk'], ?_⟩
      refine setL_eq ho fun x => ?_
      rw [hm, hi', hk', List.take_length, List.take_length]
      constructor
      · intro h
        have hb : 0 ≤ x ∧ x < (n : Int) := h.elim (hbA x) (hbB x)
        refine ⟨hb.1, hb.2, ?_⟩
        rwa [show ((x.toNat : Nat) : Int) = x by omega]
      · rintro ⟨a1, _, a3⟩
        rwa [show ((x.toNat : Nat) : Int) = x by omega] at a3) ([], 0, 0) ⟨0, 0, rfl, by omega, by omega, by simp, fun x => by simp, fun x hx => by simp at hx, fun x hx => by simp at hx⟩
  rw [h1, h2]
def rootsB (p : GProgram) (fn : Int) : List Int := if inB fn 0 ((p.Fns.length : Int) - 1) = true then (match p.Fns[fn.toNat]? with | some f => if f.Ret = -1 then [f.Body] else [f.Body, f.Ret] | none => []) else []
noncomputable def nodesB (p : GProgram) (fn : Int) : List Int := setL p.Nodes.length fun j => ∃ r ∈ rootsB p fn, (j : Int) ∈ underB p.Nodes r
theorem nodesB_bnd {p : GProgram} {fn x : Int} (h : x ∈ nodesB p fn) : 0 ≤ x ∧ x < p.Nodes.length := ⟨(mem_setL.1 h).1, (mem_setL.1 h).2.1⟩
theorem impl_roots_eq (p : GProgram) (hp : p.Fns.length ≤ 1048576) (fn : Int) : impl_roots p fn = some (rootsB p fn) := by
  unfold impl_roots rootsB
  simp only [impl_in_eq, Option.bind_some, w64_pred hp]
  cases hi : inB fn 0 ((p.Fns.length : Int) - 1) with
  | false => rfl
  | true =>
    have hi' := inB_iff.1 hi
    have hlt : fn.toNat < p.Fns.length := by omega
    simp only [Bool.not_true, Bool.false_eq_true, if_false, if_true]
    rw [getI_in hi'.1 (by omega), List.getElem?_eq_getElem hlt]
    simp only [Option.bind_some]
    by_cases hr : p.Fns[fn.toNat].Ret = -1
    · simp [hr]
    · have happ : appI 8 [p.Fns[fn.toNat].Body] [p.Fns[fn.toNat].Ret] = some ([p.Fns[fn.toNat].Body] ++ [p.Fns[fn.toNat].Ret]) := app1 (by simp) (by omega)
      simp [hr, happ]
theorem mem_foldU (nodes : List GNode) (x : Int) : ∀ (rs s : List Int), x ∈ rs.foldl (fun o r => (underB nodes r).foldl addL o) s ↔ x ∈ s ∨ ∃ r ∈ rs, x ∈ underB nodes r
  | [], s => by simp
  | r :: rs, s => by
    rw [List.foldl_cons, mem_foldU nodes x rs, mem_foldl_addL]
    simp only [List.mem_cons, exists_eq_or_imp, or_assoc]
theorem rootsB_len (p : GProgram) (fn : Int) : (rootsB p fn).length ≤ 2 := by
  unfold rootsB
  split
  · split
    · split <;> simp
    · simp
  · simp
theorem impl_fnNodes_eq (p : GProgram) (hn : p.Nodes.length ≤ 1048576) (hp : p.Fns.length ≤ 1048576) (fn : Int) : impl_fnNodes p fn = some (nodesB p fn) := by
  unfold impl_fnNodes
  rw [impl_roots_eq p hp]
  simp only [Option.bind_some]
  have hrl := rootsB_len p fn
  have := loopP_fold (rootsB p fn) (fun (o : List Int) k => (o, (k : Int))) (fun k o => o.Nodup ∧ ∀ x ∈ o, 0 ≤ x ∧ x < (p.Nodes.length : Int)) (fun o r => .inl ((underB p.Nodes r).foldl addL o)) id (impl_fnNodes_l1 p (rootsB p fn)) (fun o k hk hI => by
    left
    refine ⟨_, rfl, ?_, foldAdd_nodup _ hI.1, foldAdd_bnd hI.2 fun x hx => underB_bnd hx⟩
    have hul := nodup_len (n := p.Nodes.length) (lt_nodup (underB_lt p.Nodes (rootsB p fn)[k])) fun x hx => underB_bnd hx
    simp only [impl_fnNodes_l1, ofNat_lt_true hk, if_true, getI_at hk, Option.bind_some, impl_Under_eq p hn]
    generalize hu : underB p.Nodes (rootsB p fn)[k] = U at *
    rw [add_loop p.Nodes.length U (fun m hm => by rw [← hu] at hm; exact underB_bnd hm) (impl_fnNodes_l2 U) (fun o => o) (fun o j hj ho => by
      have happ : appI 8 o [U[j]] = some (o ++ [U[j]]) := app1 (by omega) (by omega)
      simp only [impl_fnNodes_l2, ofNat_lt_true hj, if_true, getI_at hj, Option.bind_some, hasInt_eq o _ (by omega), w64_nat hj (show U.length ≤ 1048576 by omega), happ]
      unfold addL
      cases o.contains U[j] <;> rfl) (fun o => by simp [impl_fnNodes_l2]) o hI.1 hI.2]
    simp only [Option.bind_some, w64_nat hk (show (rootsB p fn).length ≤ 1048576 by omega)]) (fun o _ => by simp [impl_fnNodes_l1]) [] ⟨by simp, fun x hx => by simp at hx⟩
  rw [foldE_inl] at this
  have h2 : loopP (impl_fnNodes_l1 p (rootsB p fn)) ([], 0) = some ((rootsB p fn).foldl (fun o r => (underB p.Nodes r).foldl addL o) []) := this
  rw [h2]
  simp only [Option.bind_some]
  generalize ho : (rootsB p fn).foldl (fun o r => (underB p.Nodes r).foldl addL o) [] = o
  have hnd : o.Nodup := by
    rw [← ho]
    have key : ∀ (rs s : List Int), s.Nodup → (rs.foldl (fun o r => (underB p.Nodes r).foldl addL o) s).Nodup := by
      intro rs
      induction rs with
      | nil => intro s h; exact h
      | cons r rs ih => intro s h; rw [List.foldl_cons]; exact ih _ (foldAdd_nodup _ h)
    exact key _ _ (by simp)
  have hmem : ∀ x, x ∈ o ↔ 0 ≤ x ∧ x < (p.Nodes.length : Int) ∧ ∃ r ∈ rootsB p fn, ((x.toNat : Nat) : Int) ∈ underB p.Nodes r := by
    intro x
    rw [← ho, mem_foldU]
    constructor
    · rintro (h | ⟨r, h1, h2⟩)
      · simp at h
      · have := underB_bnd h2
        exact ⟨this.1, this.2, r, h1, by rwa [show ((x.toNat : Nat) : Int) = x by omega]⟩
    · rintro ⟨h1, _, r, h3, h4⟩
      exact .inr ⟨r, h3, by rwa [show ((x.toNat : Nat) : Int) = x by omega] at h4⟩
  have hol : o.length ≤ p.Nodes.length := nodup_len hnd fun x hx => ⟨((hmem x).1 hx).1, ((hmem x).1 hx).2.1⟩
  rw [sort_some (by omega)]
  simp only [Option.bind_some]
  rw [sort_setL (n := p.Nodes.length) (P := fun j => ∃ r ∈ rootsB p fn, (j : Int) ∈ underB p.Nodes r) hnd hmem]
  rfl
theorem spec_l07All_eq (p : GProgram) (hn : p.Nodes.length ≤ 1048576) (hp : p.Fns.length ≤ 1048576) (fn : Int) : spec_l07All p fn = some (nodesB p fn) := by
  unfold spec_l07All nodesB rootsB
  simp only [spec_in_eq, Option.bind_some, w64_pred hp]
  cases hi : inB fn 0 ((p.Fns.length : Int) - 1) with
  | false =>
    simp only [Bool.not_false, if_true, Bool.false_eq_true, if_false]
    congr 1
    have : ∀ x, x ∉ setL p.Nodes.length fun j => ∃ r ∈ ([] : List Int), (j : Int) ∈ underB p.Nodes r := by
      intro x hx
      obtain ⟨_, _, r, hr, _⟩ := mem_setL.1 hx
      cases hr
    exact (List.eq_nil_iff_forall_not_mem.2 this).symm
  | true =>
    have hi' := inB_iff.1 hi
    have hlt : fn.toNat < p.Fns.length := by omega
    simp only [Bool.not_true, Bool.false_eq_true, if_false, if_true]
    rw [getI_in hi'.1 (by omega), List.getElem?_eq_getElem hlt]
    simp only [Option.bind_some, spec_Under_eq p hn]
    generalize p.Fns[fn.toNat] = f
    rw [merge_loop p.Nodes.length hn _ _ (underB_lt _ _) (underB_lt _ _) (fun x hx => underB_bnd hx) (fun x hx => underB_bnd hx)]
    simp only [Option.bind_some]
    congr 1
    refine setL_congr fun j hj => ?_
    by_cases hr : f.Ret = -1
    · have h0 : underB p.Nodes f.Ret = [] := by
        have hd : deepB p.Nodes f.Ret = 0 := by
          unfold deepB
          rw [hr, if_neg (by omega)]
        unfold underB
        rw [if_pos hd]
      rw [if_pos hr, h0]
      simp
    · rw [if_neg hr]
      simp
end Go.OM
set_option linter.unusedVariables false
set_option linter.unusedSimpArgs false
namespace Go.OM
theorem fnAtB_bnd (p : GProgram) (nm : ByteArray) : fnAtB p nm = -1 ∨ (0 ≤ fnAtB p nm ∧ fnAtB p nm < p.Fns.length) := by
  unfold fnAtB
  cases h : (List.range p.Fns.length).findSome? (fnAtQ p nm) with
  | none => exact .inl rfl
  | some r =>
    right
    obtain ⟨k, hk, hr⟩ := List.exists_of_findSome?_eq_some h
    have := List.mem_range.1 hk
    unfold fnAtQ at hr
    split at hr
    · split at hr
      · have := Option.some.inj hr
        simp only [Option.getD_some]
        omega
      · cases hr
    · cases hr
def callStep (p : GProgram) (o : List Int) (e : Int) : List Int := match p.Nodes[e.toNat]? with
  | some x => if x.Kind = 12 then (if 0 ≤ fnAtB p x.Name then addL o (fnAtB p x.Name) else o) else o
  | none => o
noncomputable def callsB (p : GProgram) (fn : Int) : List Int := (nodesB p fn).foldl (callStep p) []
structure CInv (p : GProgram) (o : List Int) : Prop where
  nd : o.Nodup
  bnd : ∀ x ∈ o, 0 ≤ x ∧ x < (p.Fns.length : Int)
theorem CInv.step {p : GProgram} {o : List Int} (h : CInv p o) (e : Int) : CInv p (callStep p o e) := by
  unfold callStep
  split
  · split
    · split
      · rename_i x _ _ hge
        refine ⟨addL_nodup h.nd _, fun y hy => ?_⟩
        rcases mem_addL.1 hy with hy | hy
        · exact h.bnd y hy
        · subst hy
          rcases fnAtB_bnd p x.Name with hb | hb
          · omega
          · exact hb
      · exact h
    · exact h
  · exact h
theorem callsB_inv (p : GProgram) (fn : Int) : CInv p (callsB p fn) := by
  unfold callsB
  have key : ∀ (l o : List Int), CInv p o → CInv p (l.foldl (callStep p) o) := by
    intro l
    induction l with
    | nil => intro o h; exact h
    | cons e l ih => intro o h; exact ih _ (h.step e)
  exact key _ _ ⟨by simp, fun x hx => by simp at hx⟩
theorem call_loop {ρ : Type} (p : GProgram) (fn : Int) (f : List Int × Int → Option ((List Int × Int) ⊕ ρ)) (fin : List Int → ρ)
    (hf : ∀ (o : List Int) (k : Nat) (hk : k < (nodesB p fn).length), o.length ≤ p.Fns.length → f (o, k) = some (.inl (callStep p o (nodesB p fn)[k], ((k + 1 : Nat) : Int))))
    (he : ∀ o, f (o, (nodesB p fn).length) = some (.inr (fin o))) : loopP f ([], 0) = some (fin (callsB p fn)) := by
  have := loopP_fold (nodesB p fn) (fun (o : List Int) k => (o, (k : Int))) (fun k o => CInv p o) (fun o e => .inl (callStep p o e)) fin f (fun o k hk hI => by
    left
    exact ⟨_, rfl, hf o k hk (nodup_len hI.nd hI.bnd), hI.step _⟩) (fun o _ => he o) [] ⟨by simp, fun x hx => by simp at hx⟩
  rw [foldE_inl] at this
  exact this
theorem impl_CallsOf_eq (p : GProgram) (hn : p.Nodes.length ≤ 1048576) (hp : p.Fns.length ≤ 1048576) (fn : Int) : impl_CallsOf p fn = some (callsB p fn) := by
  unfold impl_CallsOf
  rw [impl_fnNodes_eq p hn hp]
  simp only [Option.bind_some]
  have hnl : (nodesB p fn).length ≤ 1048576 := Nat.le_trans (setL_len _ _) hn
  rw [call_loop p fn (impl_CallsOf_l1 p (nodesB p fn)) (fun o => o) (fun o k hk ho => by
    have hb := nodesB_bnd (List.getElem_mem hk)
    have hlt : (nodesB p fn)[k].toNat < p.Nodes.length := by omega
    have hge : getI p.Nodes (nodesB p fn)[k] = some p.Nodes[(nodesB p fn)[k].toNat] := getI_in hb.1 hb.2
    simp only [impl_CallsOf_l1, ofNat_lt_true hk, if_true, getI_at hk, Option.bind_some, hge, impl_FnAt_eq p _ hp, w64_nat hk hnl]
    unfold callStep
    rw [List.getElem?_eq_getElem hlt]
    generalize p.Nodes[(nodesB p fn)[k].toNat] = x
    have happ : appI 8 o [fnAtB p x.Name] = some (o ++ [fnAtB p x.Name]) := app1 (by omega) (by omega)
    simp only [hasInt_eq o _ (by omega), Option.bind_some, happ]
    by_cases h12 : x.Kind = 12
    · rw [if_pos (by simpa using h12), if_pos h12]
      by_cases h0 : 0 ≤ fnAtB p x.Name
      · have d : decide (fnAtB p x.Name ≥ 0) = true := by simpa using h0
        rw [d, if_pos h0]
        unfold addL
        cases o.contains (fnAtB p x.Name) <;> rfl
      · have d : decide (fnAtB p x.Name ≥ 0) = false := by simpa using h0
        rw [d, if_neg h0]; rfl
    · rw [if_neg (by simpa using h12), if_neg h12]) (fun o => by simp [impl_CallsOf_l1])]
  rfl
theorem spec_CallsOf_eq (p : GProgram) (hn : p.Nodes.length ≤ 1048576) (hp : p.Fns.length ≤ 1048576) (fn : Int) : spec_CallsOf p fn = some (callsB p fn) := by
  unfold spec_CallsOf
  rw [spec_l07All_eq p hn hp]
  simp only [Option.bind_some]
  have hnl : (nodesB p fn).length ≤ 1048576 := Nat.le_trans (setL_len _ _) hn
  rw [call_loop p fn (spec_CallsOf_l1 p (nodesB p fn)) (fun o => o) (fun o k hk ho => by
    have hb := nodesB_bnd (List.getElem_mem hk)
    have hlt : (nodesB p fn)[k].toNat < p.Nodes.length := by omega
    have hge : getI p.Nodes (nodesB p fn)[k] = some p.Nodes[(nodesB p fn)[k].toNat] := getI_in hb.1 hb.2
    simp only [spec_CallsOf_l1, ofNat_lt_true hk, if_true, getI_at hk, Option.bind_some, hge, spec_FnAt_eq p _ hp, w64_nat hk hnl]
    unfold callStep
    rw [List.getElem?_eq_getElem hlt]
    generalize p.Nodes[(nodesB p fn)[k].toNat] = x
    simp only [spec_l11Add_eq o _ (show o.length ≤ 1048576 by omega), Option.bind_some]
    by_cases h12 : x.Kind = 12
    · rw [if_neg (by simpa using h12), if_pos h12]
      by_cases h0 : 0 ≤ fnAtB p x.Name
      · have d : decide (fnAtB p x.Name ≥ 0) = true := by simpa using h0
        rw [d, if_pos h0]; rfl
      · have d : decide (fnAtB p x.Name ≥ 0) = false := by simpa using h0
        rw [d, if_neg h0]; rfl
    · rw [if_pos (by simpa using h12), if_neg h12]) (fun o => by simp [spec_CallsOf_l1])]
  rfl
noncomputable def reachF (p : GProgram) (fn : Int) : List Int := if inB fn 0 ((p.Fns.length : Int) - 1) = true then setL p.Fns.length (Reach (fun i => callsB p (i : Int)) fn.toNat) else []
theorem winv_startR {W : Nat} {next : Nat → List Int} {root : Nat} (hW : root < W) : WInv W root next ((List.replicate W false).set root true, [(root : Int)]) := by
  have hc : ((List.replicate W false).set root true).count true = 1 := by
    rw [count_set (by simpa using hW) (by simp [hW])]
    simp [List.count_replicate]
  refine ⟨by simp, by rw [hc]; simp, by simp; omega, by simp [hW], fun n h => ?_, fun n h => ?_, by simp [hW]⟩
  · simp only [List.getElem?_set, List.length_replicate] at h
    split at h
    · rename_i e; subst e; exact .base
    · simp [List.getElem?_replicate] at h
  · simp only [List.getElem?_set, List.length_replicate] at h
    split at h
    · rename_i e; subst e; exact .inl (by simp)
    · simp [List.getElem?_replicate] at h
theorem impl_ReachedFns_eq (p : GProgram) (hn : p.Nodes.length ≤ 1048576) (hp : p.Fns.length ≤ 1048576) (fn : Int) : impl_ReachedFns p fn = some (reachF p fn) := by
  unfold impl_ReachedFns reachF
  simp only [impl_in_eq, Option.bind_some, w64_pred hp]
  cases hi : inB fn 0 ((p.Fns.length : Int) - 1) with
  | false => rfl
  | true =>
    have hi' := inB_iff.1 hi
    have hff : fn = ((fn.toNat : Nat) : Int) := by omega
    have hlt : fn.toNat < p.Fns.length := by omega
    generalize fn.toNat = r at *
    subst hff
    simp only [Bool.not_true, Bool.false_eq_true, if_false, if_true]
    obtain ⟨o, g1, g2, g3⟩ := bfs_loop p.Fns.length r hlt (fun i => callsB p (i : Int)) (fun i _ m hm => (callsB_inv p _).bnd m hm) (impl_ReachedFns_l1 p) (fun o => o) (fun o i hi hnd hb hr => by
      have hbi := hb _ (List.getElem_mem hi)
      have hol := nodup_len hnd hb
      have hc := callsB_inv p o[i]
      have hcl := nodup_len hc.nd hc.bnd
      have hcast : ((o[i].toNat : Nat) : Int) = o[i] := by omega
      simp only [impl_ReachedFns_l1, ofNat_lt_true hi, if_true, getI_at hi, Option.bind_some, impl_CallsOf_eq p hn hp, hcast]
      generalize callsB p o[i] = L at *
      rw [add_loop p.Fns.length L hc.bnd (impl_ReachedFns_l2 L) (fun o => o) (fun o k hk ho => by
        have happ : appI 8 o [L[k]] = some (o ++ [L[k]]) := app1 (by omega) (by omega)
        simp only [impl_ReachedFns_l2, ofNat_lt_true hk, if_true, getI_at hk, Option.bind_some, hasInt_eq o _ (by omega), w64_nat hk (show L.length ≤ 1048576 by omega), happ]
        unfold addL
        cases o.contains L[k] <;> rfl) (fun o => by simp [impl_ReachedFns_l2]) o hnd hb]
      simp only [Option.bind_some, w64_nat hi (show o.length ≤ 1048576 by omega)]) (fun o ho => by simp [impl_ReachedFns_l1])
    rw [g1]
    simp only [Option.bind_some]
    have hol := nodup_len (n := p.Fns.length) g2 fun x hx => ⟨((g3 x).1 hx).1, ((g3 x).1 hx).2.1⟩
    rw [sort_some (by omega)]
    simp only [Option.bind_some]
    rw [sort_setL g2 g3]
theorem vis_loop2 {ρ : Type} (r : List Int) (W : Nat) (hW : W ≤ 1048576) (hr : ∀ m ∈ r, 0 ≤ m ∧ m < W) (f : List Bool × List Int × Int → Option ((List Bool × List Int × Int) ⊕ ρ)) (fin : List Bool × List Int → ρ)
    (hf : ∀ (o : List Bool) (t : List Int) (k : Nat) (hk : k < r.length), o.length = W → t.length ≤ 1048576 → f (o, t, k) = some (.inl ((vis (o, t) r[k]).1, (vis (o, t) r[k]).2, ((k + 1 : Nat) : Int))))
    (he : ∀ o t, f (o, t, r.length) = some (.inr (fin (o, t)))) (o : List Bool) (t : List Int) (ho : o.length = W) (ht : t.length ≤ o.count true) : loopP f (o, t, 0) = some (fin (r.foldl vis (o, t))) := by
  have := loopP_fold r (fun (s : List Bool × List Int) k => (s.1, s.2, (k : Int))) (fun k s => s.1.length = W ∧ s.2.length ≤ s.1.count true) (fun s e => .inl (vis s e)) fin f (fun s k hk hI => by
    left
    obtain ⟨h1, h2⟩ := hI
    have hcw := List.count_le_length (a := true) (l := s.1)
    have hb := hr _ (List.getElem_mem hk)
    refine ⟨_, rfl, hf s.1 s.2 k hk h1 (by omega), by rw [vis_len]; exact h1, ?_⟩
    have := vis_count (s := s) (m := r[k]) (by omega)
    omega) (fun s _ => he s.1 s.2) (o, t) ⟨ho, ht⟩
  rw [foldE_inl] at this
  exact this
theorem spec_ReachedFns_eq (p : GProgram) (hn : p.Nodes.length ≤ 1048576) (hp : p.Fns.length ≤ 1048576) (fn : Int) : spec_ReachedFns p fn = some (reachF p fn) := by
  unfold spec_ReachedFns reachF
  simp only [spec_in_eq, Option.bind_some, w64_pred (show p.Fns.length ≤ 1048576 by omega)]
  cases hi : inB fn 0 ((p.Fns.length : Int) - 1) with
  | false => rfl
  | true =>
    have hi' := inB_iff.1 hi
    have hff : fn = ((fn.toNat : Nat) : Int) := by omega
    have hlt : fn.toNat < p.Fns.length := by omega
    generalize fn.toNat = r at *
    subst hff
    simp only [Bool.not_true, Bool.false_eq_true, if_false, if_true]
    rw [mkI_len _ _ _ (by omega) (by omega)]
    have h0 : getI (List.replicate p.Fns.length false) (r : Int) = some false := by
      rw [getI_nat, List.getElem?_replicate, if_pos hlt]
    simp only [Option.bind_some, h0, bindS_def, Int.toNat_natCast]
    have hnx : ∀ (i : Nat), i < p.Fns.length → ∀ m ∈ callsB p (i : Int), 0 ≤ m ∧ m < (p.Fns.length : Int) := fun i _ m hm => (callsB_inv p _).bnd m hm
    obtain ⟨t', g1, g2, g3⟩ := wl_loop (spec_ReachedFns_l1 p) (fun t => (t.1, t.2.1.drop t.2.2.toNat)) (fun t => ∃ i : Nat, t.2.2 = i ∧ i ≤ t.2.1.length ∧ t.2.1.length ≤ t.1.count true) p.Fns.length r (fun i => callsB p (i : Int)) (fun t => t.1) hnx (fun t hO hI hne => by
      obtain ⟨o, l, i⟩ := t
      obtain ⟨i, rfl, hi, hlc⟩ := hO
      simp only [Int.toNat_natCast] at hI hne hi hlc ⊢
      have hil : i < l.length := by
        rcases Nat.lt_or_ge i l.length with h | h
        · exact h
        · exact absurd (List.drop_eq_nil_of_le h) hne
      have hdr := List.drop_eq_getElem_cons hil
      have hmem : l[i] ∈ l.drop i := by rw [hdr]; exact List.mem_cons_self
      have hcov : ∀ x ∈ l.drop i, x = l[i] ∨ x ∈ l.drop (i + 1) := by rw [hdr]; intro x hx; exact List.mem_cons.1 hx
      have hsubs : ∀ x ∈ l.drop (i + 1), x ∈ l.drop i := by rw [hdr]; intro x hx; exact List.mem_cons_of_mem _ hx
      have hdl : (l.drop (i + 1)).length + 1 = (l.drop i).length := by rw [List.length_drop, List.length_drop]; omega
      have heb := hI.bnd l[i] hmem
      have hlen := hI.len
      have hcw := List.count_le_length (a := true) (l := o)
      simp only at hlen
      have hcast : ((l[i].toNat : Nat) : Int) = l[i] := by omega
      have hc := callsB_inv p l[i]
      have hcl := nodup_len hc.nd hc.bnd
      have hnn : (fun i : Nat => callsB p (i : Int)) l[i].toNat = callsB p l[i] := by simp only [hcast]
      have V := visL (callsB p l[i]) (o, l) (fun m hmm => by have := hc.bnd m hmm; simp only; omega)
      have hfa := foldl_vis_app (callsB p l[i]) (l.take (i + 1)) o (l.drop (i + 1))
      rw [List.take_append_drop] at hfa
      have hcalls := spec_CallsOf_eq p hn (show p.Fns.length ≤ 1048576 by omega) l[i]
      generalize hL : callsB p l[i] = L at *
      refine ⟨((L.foldl vis (o, l)).1, (L.foldl vis (o, l)).2, ((i + 1 : Nat) : Int)), l[i], l.drop (i + 1), L, ?_, ⟨i + 1, rfl, ?_, ?_⟩, hmem, hcov, hsubs, hdl, fun m => by rw [hcast, hL], ?_⟩
      · simp only [spec_ReachedFns_l1, ofNat_lt_true hil, if_true, getI_at hil, Option.bind_some, hcalls]
        rw [vis_loop2 L p.Fns.length (by omega) hc.bnd (spec_ReachedFns_l2 L) (fun s => s) (fun o t k hk ho ht => by
          have hb := hc.bnd _ (List.getElem_mem hk)
          simp only [spec_ReachedFns_l2, ofNat_lt_true hk, if_true, getI_at hk, Option.bind_some, vis_get hb.1 (show L[k] < (o.length : Int) by rw [ho]; exact hb.2), bindS_def, w64_nat hk (show L.length ≤ 1048576 by omega), app1 (n := 8) (show t.length ≤ 1048576 by omega) (by omega)]
          rw [vis_eq (show (L[k]).toNat < o.length by omega)]
          cases o[(L[k]).toNat] <;> rfl) (fun o t => by simp [spec_ReachedFns_l2]) o l hI.len hlc]
        simp only [Option.bind_some, w64_nat hil (show l.length ≤ 1048576 by omega)]
      · rw [hfa]; simp; omega
      · have q1 := V.count
        have q2 := V.cle
        simp only at q1 q2 ⊢
        omega
      · simp only [Int.toNat_natCast]
        rw [hfa]
        simp only
        congr 1
        rw [List.drop_append_of_le_length (by simp; omega), List.drop_of_length_le (by simp; omega)]; simp) (fun t hO he => by
      obtain ⟨o, l, i⟩ := t
      obtain ⟨i, rfl, hi, hlc⟩ := hO
      simp only [Int.toNat_natCast] at he hi
      have hil : i = l.length := by
        have := congrArg List.length he
        simp at this; omega
      subst hil
      simp [spec_ReachedFns_l1]) ((List.replicate p.Fns.length false).set r true, [(r : Int)], 0) ⟨0, rfl, by simp, by
        have := (winv_startR (W := p.Fns.length) (next := fun i => callsB p (i : Int)) hlt).cnt
        exact this⟩ (winv_startR hlt)
    rw [g1]
    simp only [Option.bind_some]
    simp only at g3
    rw [g3]
    have hRl : (reachL p.Fns.length r fun i => callsB p (i : Int)).length = p.Fns.length := by unfold reachL; simp
    have hRg : ∀ j, j < p.Fns.length → ((reachL p.Fns.length r fun i => callsB p (i : Int))[j]? = some true ↔ Reach (fun i => callsB p (i : Int)) r j) := fun j hj => by
      unfold reachL
      rw [List.getElem?_map, List.getElem?_range hj]
      simp
    generalize hRR : (reachL p.Fns.length r fun i => callsB p (i : Int)) = R at *
    rw [scan_loop p.Fns.length (by omega) (fun j => R.getD j false) (spec_ReachedFns_l3 R) (fun o => o) (fun o j ho hj => by
      have hjs : j < R.length := by omega
      have happ : appI 8 o [(j : Int)] = some (o ++ [(j : Int)]) := app1 ho (by omega)
      simp only [spec_ReachedFns_l3, hRl, ofNat_lt_true hj, if_true, getI_at hjs, Option.bind_some, happ, w64_nat hj (show p.Fns.length ≤ 1048576 by omega)]
      rw [List.getD_eq_getElem?_getD, List.getElem?_eq_getElem hjs]
      simp only [Option.getD_some]
      cases R[j] <;> rfl) (fun o => by simp [spec_ReachedFns_l3, hRl])]
    simp only [Option.bind_some]
    congr 1
    refine setL_congr fun j hj => ?_
    rw [← hRg j hj]
    have hjs : j < R.length := by omega
    rw [List.getD_eq_getElem?_getD, List.getElem?_eq_getElem hjs]
    simp
theorem reachF_len (p : GProgram) (fn : Int) : (reachF p fn).length ≤ p.Fns.length := by
  unfold reachF
  split
  · exact setL_len _ _
  · simp
theorem reachF_lt (p : GProgram) (fn : Int) : (reachF p fn).Pairwise (· < ·) := by
  unfold reachF
  split
  · exact setL_lt _ _
  · simp
theorem reachF_bnd {p : GProgram} {fn x : Int} (h : x ∈ reachF p fn) : 0 ≤ x ∧ x < p.Fns.length := by
  unfold reachF at h
  split at h
  · have := mem_setL.1 h; exact ⟨this.1, this.2.1⟩
  · cases h
noncomputable def deadB (p : GProgram) : List Int := setL p.Fns.length fun v => (reachF p ((p.Fns.length : Int) - 1)).contains (v : Int) = false
theorem impl_DeadFns_eq (p : GProgram) (hn : p.Nodes.length ≤ 1048576) (hp : p.Fns.length ≤ 1048576) : impl_DeadFns p = some (deadB p) := by
  unfold impl_DeadFns deadB
  rw [w64_pred hp, impl_ReachedFns_eq p hn hp]
  simp only [Option.bind_some]
  have hRl := reachF_len p ((p.Fns.length : Int) - 1)
  generalize reachF p ((p.Fns.length : Int) - 1) = R at *
  rw [scan_loop p.Fns.length hp (fun v => !(R.contains (v : Int))) (impl_DeadFns_l1 p R) (fun o => o) (fun o k ho hk => by
    have happ : appI 8 o [(k : Int)] = some (o ++ [(k : Int)]) := app1 ho (by omega)
    simp only [impl_DeadFns_l1, ofNat_lt_true hk, if_true, hasInt_eq R _ (by omega), Option.bind_some, happ, w64_nat hk hp]
    cases R.contains (k : Int) <;> rfl) (fun o => by simp [impl_DeadFns_l1])]
  simp only [Option.bind_some]
  congr 1
  exact setL_congr fun j hj => by simp
theorem spec_DeadFns_eq (p : GProgram) (hn : p.Nodes.length ≤ 1048576) (hp : p.Fns.length ≤ 1048576) : spec_DeadFns p = some (deadB p) := by
  unfold spec_DeadFns deadB
  rw [w64_pred hp, spec_ReachedFns_eq p hn hp]
  simp only [Option.bind_some]
  have hRl := reachF_len p ((p.Fns.length : Int) - 1)
  have hRs := reachF_lt p ((p.Fns.length : Int) - 1)
  have hRb := fun x => reachF_bnd (p := p) (fn := (p.Fns.length : Int) - 1) (x := x)
  generalize reachF p ((p.Fns.length : Int) - 1) = R at *
  obtain ⟨r, h1, h2⟩ := loopP_run (f := spec_DeadFns_l1 p R) (fun s : List Int × Int × Int => ∃ a i : Nat, s.2 = ((a : Int), (i : Int)) ∧ a ≤ R.length ∧ i ≤ p.Fns.length ∧ s.1 = (((List.range i).filter fun v : Nat => !(R.contains (v : Int))).map fun k : Nat => (k : Int)) ∧ (∀ x ∈ R.take a, x < (i : Int)) ∧ ∀ x ∈ R.drop a, (i : Int) ≤ x) (fun s => p.Fns.length - s.2.2.toNat) (fun r => r = setL p.Fns.length fun v => R.contains (v : Int) = false) (by
    rintro ⟨o, q⟩ ⟨a, i, rfl, ha, hi, ho, h3, h4⟩
    simp only at ho h3 h4
    have hol : o.length ≤ 1048576 := by
      rw [ho, List.length_map]
      have := List.length_filter_le (fun v : Nat => !(R.contains (v : Int))) (List.range i)
      rw [List.length_range] at this
      omega
    by_cases hlt : i < p.Fns.length
    · left
      have hmem : (i : Int) ∈ R ↔ ∃ h : a < R.length, R[a] = (i : Int) := by
        constructor
        · intro h
          rw [← List.take_append_drop a R, List.mem_append] at h
          rcases h with h | h
          · have := h3 _ h; omega
          · have hal : a < R.length := by
              rcases Nat.lt_or_ge a R.length with h' | h'
              · exact h'
              · rw [List.drop_eq_nil_of_le h'] at h; cases h
            have e1 := drop_ge hRs hal h
            have e2 := h4 _ (drop_self hal)
            exact ⟨hal, by omega⟩
        · rintro ⟨h, e⟩
          rw [← e]; exact List.getElem_mem h
      have da : decide ((a : Int) < (R.length : Int)) = decide (a < R.length) := decide_eq_decide.2 (by omega)
      have wa : IntKind.wrap .i64 ((a : Int) + 1) = ((a + 1 : Nat) : Int) := by rw [w64 (by omega) (by omega)]; omega
      have happ : appI 8 o [(i : Int)] = some (o ++ [(i : Int)]) := app1 hol (by omega)
      have hsucc : ((List.range (i + 1)).filter fun v : Nat => !(R.contains (v : Int))).map (fun k : Nat => (k : Int)) = o ++ (if R.contains (i : Int) = true then [] else [(i : Int)]) := by
        rw [List.range_succ, List.filter_append, List.map_append, ← ho]
        cases hc : R.contains (i : Int)
        · have : (i : Int) ∉ R := by simpa using hc
          simp [this]
        · have : (i : Int) ∈ R := by simpa using hc
          simp [this]
      by_cases hm : (i : Int) ∈ R
      · obtain ⟨hal, he⟩ := hmem.1 hm
        have hc : R.contains (i : Int) = true := by simpa using hm
        refine ⟨(o, ((a + 1 : Nat) : Int), ((i + 1 : Nat) : Int)), ?_, ⟨a + 1, i + 1, rfl, by omega, by omega, ?_, fun x hx => ?_, fun x hx => ?_⟩, by simp only [Int.toNat_natCast]; omega⟩
        · simp [spec_DeadFns_l1, hlt, hal, getI_at hal, he, wa, w64_nat hlt hp]
        · simp only
          rw [hsucc, hc]; simp
        · rcases (take_succ_mem hal).1 hx with h | h
          · have := h3 x h; omega
          · omega
        · have := drop_gt hRs hal hx
          omega
      · have hc : R.contains (i : Int) = false := by simpa using hm
        refine ⟨(o ++ [(i : Int)], (a : Int), ((i + 1 : Nat) : Int)), ?_, ⟨a, i + 1, rfl, ha, by omega, ?_, fun x hx => ?_, fun x hx => ?_⟩, by simp only [Int.toNat_natCast]; omega⟩
        · by_cases hal : a < R.length
          · have hne : ¬ R[a] = (i : Int) := fun e => hm (hmem.2 ⟨hal, e⟩)
            simp [spec_DeadFns_l1, hlt, hal, getI_at hal, hne, happ, w64_nat hlt hp]
          · simp [spec_DeadFns_l1, hlt, hal, happ, w64_nat hlt hp]
        · simp only
          rw [hsucc, hc]; simp
        · have := h3 x hx; omega
        · have e1 := h4 x hx
          have : x ≠ (i : Int) := fun e => hm (e ▸ List.mem_of_mem_drop hx)
          omega
    · right
      have : i = p.Fns.length := by omega
      subst this
      refine ⟨o, by simp [spec_DeadFns_l1], ?_⟩
      rw [ho]
      unfold setL
      congr 1
      refine List.filter_congr fun x _ => ?_
      simp) ([], 0, 0) ⟨0, 0, rfl, by omega, by omega, rfl, fun x hx => by simp at hx, fun x hx => by
        have := hRb x (List.mem_of_mem_drop hx)
        omega⟩
  rw [h1, h2]
  rfl
theorem law_DeadFns (p : GProgram) (hw : GProgram.le maxLen p) : laws_FnExactDeadFns p = some true := by
  unfold laws_FnExactDeadFns
  obtain ⟨r, h1, h2, h3⟩ := laws_szProgram_p p hw 1048576 (by omega) (by omega)
  rw [h1]
  simp only [Option.bind_some]
  by_cases hr : r < 0
  · simp [hr]
  · have hp := h3 (by omega)
    have v1 := impl_DeadFns_eq p hp.1.1 hp.2.1
    have v2 := spec_DeadFns_eq p hp.1.1 hp.2.1
    have hok : (deadB p).length ≤ 1048576 := Nat.le_trans (setL_len _ _) hp.2.1
    obtain ⟨k1, c1, m1, m2, m3⟩ := laws_markProgram_p p hp 1 (by omega) (by omega)
    obtain ⟨k2, w2, n1, n2, n3, n4⟩ := laws_markIntS_p _ hok 1 (by omega) (by omega)
    simp [hr, laws_toProgram_p p hp, v1, v2, laws_eqIntS_p _ _ hok hok, laws_eqProgram_p p p hp hp, m1, n1, n4, show ¬ k1 < 0 by omega, show ¬ k2 < 0 by omega]
end Go.OM
