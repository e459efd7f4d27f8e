import Derived.Test.YtelnmegngpocjaaDoorTB
import Derived.KernelRfl
set_option linter.unusedVariables false
set_option linter.unusedSimpArgs false
set_option maxHeartbeats 1000000
namespace Go.Proofs.T
open Go.OM
theorem res72 : Tryd.f72.results.toList = [.tmp 4] := rfl
theorem ent72 : Enters E.P 72 := enters_of Tryd.func72 (by simp [Tryd.f72]) rfl
theorem laws_eqFnS_ok (a1 : List GFn) (b2 : List GFn) {r0 : Bool} (h : laws_eqFnS a1 b2 = some r0) : Ok E 72 [.val (.sl false 5 (List.map (GFn.enc false) a1)), .val (.sl false 5 (List.map (GFn.enc false) b2))] [vb r0] [] := by
  refine ok_of_body (fn := Tryd.f72) Tryd.func72 rfl (by simp [Tryd.f72]) fun C hN hP => ?_
  have hPB : ∀ l, pinK [] l = true → pinB C.pin l = true := pinB_of (by rw [hP]; rfl)
  have hN' : C.N = 27 := hN
  clear hN
  unfold laws_eqFnS at h
  refine SWp.seqR rfl (hPB _ rfl) fun K hK => ?_
  refine wps_cons rfl fun K hK => ?_; simp [hN']; refine hK _ ?_; clear hK
  refine wps_nil (hK _ ?_); clear hK
  refine SWp.seq ?_
  refine SWp.seqR rfl (hPB _ rfl) fun K hK => ?_
  iterate 5 (refine wps_cons rfl fun K hK => ?_; simp [hN']; refine hK _ ?_; clear hK)
  refine wps_nil (hK _ ?_); clear hK
  rcases ite_or h with ⟨hb3, h⟩ | ⟨hb4, h⟩
  · refine SWp.condT' (b := (a1.length : Int) != (b2.length : Int)) (by simp) hb3 ?_
    refine SWp.seqR rfl (hPB _ rfl) fun K hK => ?_
    refine wps_cons rfl fun K hK => ?_; simp [hN']; refine hK _ ?_; clear hK
    refine wps_nil (hK _ ?_); clear hK
    cases h
    refine SWp.ret ?_
    simp [thenS, inBlockS, res72]
  · refine SWp.condF' (b := (a1.length : Int) != (b2.length : Int)) (by simp) hb4 ?_
    refine SWp.skip ?_
    show SWp E C _ _ _
    obtain ⟨j7, hj5, h⟩ := bind_some h
    refine SWp.seqC [] [] (fun v : Unit => ⟨[], []⟩) (fun v => j7 = Sum.inl v) (fun v hv => ?_) fun K6 hK6 => ?_
    rotate_left
    · refine SWp.seqR rfl (hPB _ rfl) fun K hK => ?_
      refine wps_cons rfl fun K hK => ?_; simp [hN']; refine hK _ ?_; clear hK
      refine wps_nil (hK _ ?_); clear hK
      refine SWp.block ?_
      refine SWp.loopO [] [0, 1, 5] [] (fun v : Int => ⟨[(0, .t (.sl false 5 (List.map (GFn.enc false) a1))), (1, .t (.sl false 5 (List.map (GFn.enc false) b2))), (5, .t (vi v))], []⟩) (laws_eqFnS_l1 a1 b2) _ 0 hj5 (by simp [hN']) ?_
      intro g s11 h9 ho10
      obtain ⟨i8, hg⟩ : ∃ y, y = g := ⟨_, rfl⟩
      subst hg
      simp only [laws_eqFnS_l1] at h9
      try dsimp only
      refine SWp.seq ?_
      refine SWp.seqR rfl (hPB _ rfl) fun K hK => ?_
      iterate 4 (refine wps_cons rfl fun K hK => ?_; simp [hN']; refine hK _ ?_; clear hK)
      refine wps_nil (hK _ ?_); clear hK
      rcases ite_or h9 with ⟨hb12, h9⟩ | ⟨hb13, h9⟩
      · refine SWp.condT' (b := decide (i8 < (a1.length : Int))) (by simp) hb12 ?_
        refine SWp.skip ?_
        show SWp E C _ _ _
        refine SWp.seq ?_
        refine SWp.block ?_
        refine SWp.seq ?_
        obtain ⟨e15, he15, h9⟩ := bind_some h9
        obtain ⟨he15a, he15b, he15c, he15d⟩ := getI_some he15
        obtain ⟨e16, he16, h9⟩ := bind_some h9
        obtain ⟨he16a, he16b, he16c, he16d⟩ := getI_some he16
        refine SWp.drawT rfl (hPB _ rfl) [(17, .t (.sl false 5 (List.map (GFn.enc false) a1))), (18, .t (vi i8)), (19, .rop [vs e15.Name, .sl false 2 (List.map GParam.enc e15.Params), vi e15.Res, vi e15.Body, vi e15.Ret] 0), (20, .t (GFn.enc false e15)), (21, .t (.sl false 5 (List.map (GFn.enc false) b2))), (22, .t (vi i8)), (23, .rop [vs e16.Name, .sl false 2 (List.map GParam.enc e16.Params), vi e16.Res, vi e16.Body, vi e16.Ret] 0), (24, .t (GFn.enc false e16))] [[], [], [0, 1], [0, 1, 2], [], [], [4, 5], [4, 5, 6], [0, 1, 2, 3, 4, 5, 6, 7], [0, 1, 2, 3, 4, 5, 6, 7, 8]] (by simp) (by simp) (by simp [look]) rfl rfl rfl ?_ fun K hK => ?_
        · refine ⟨?_, ?_, ?_, ?_, ?_, ?_, ?_, ?_, trivial⟩
          all_goals (intro τ hbx hb hd hf K hK; try simp [vsAt] at hd; simp [vsAt] at hf; first | (refine wps_cons rfl fun K' hK' => ?_; simp [hN', hbx, hb, hd, hf, he15a, he15b, he15c, he15d, he16a, he16b, he16c, he16d]; exact hK' _ (wps_nil (hK _ (by simp [vsAt, hbx, he15a, he15b, he15c, he15d, he16a, he16b, he16c, he16d])))))
        obtain ⟨r17, hc18, h9⟩ := bind_some h9
        refine wps_call [(.take, .tmp 20), (.take, .tmp 24)] rfl rfl ent111 (laws_eqFn_ok _ _ hc18) fun K hK => ?_; simp [hN', he15a, he15b, he15c, he15d, he16a, he16b, he16c, he16d]; refine hK _ ?_; clear hK
        refine wps_cons rfl fun K hK => ?_; simp [hN', he15a, he15b, he15c, he15d, he16a, he16b, he16c, he16d]; refine hK _ ?_; clear hK
        refine wps_nil (hK _ ?_); clear hK
        show SWp E C _ _ _
        rcases ite_or h9 with ⟨hb19, h9⟩ | ⟨hb20, h9⟩
        · refine SWp.condT' (b := !r17) (by simp) hb19 ?_
          refine SWp.seqR rfl (hPB _ rfl) fun K hK => ?_
          refine wps_cons rfl fun K hK => ?_; simp [hN']; refine hK _ ?_; clear hK
          refine wps_nil (hK _ ?_); clear hK
          have h21 := congrArg some (ho10 _ (Option.some.inj h9).symm)
          cases h21
          try dsimp only at h
          cases h
          refine SWp.ret ?_
          simp [thenS, inBlockS, res72]
        · refine SWp.condF' (b := !r17) (by simp) hb20 ?_
          refine SWp.skip ?_
          show SWp E C _ _ _
          refine SWp.reg rfl (hPB _ rfl) fun K hK => ?_
          iterate 3 (refine wps_cons rfl fun K hK => ?_; simp [hN']; refine hK _ ?_; clear hK)
          refine wps_nil (hK _ ?_); clear hK
          cases h9
          exact ⟨_, [], rfl, by simp [hN']⟩
      · refine SWp.condF' (b := decide (i8 < (a1.length : Int))) (by simp) hb13 ?_
        refine SWp.exit ?_
        have h22 := congrArg some (ho10 _ (Option.some.inj h9).symm)
        cases h22
        exact hK6 _ _ [] rfl (by simp [hN'])
    subst hv
    obtain ⟨⟩ := v
    try dsimp only at h ⊢
    refine SWp.seqR rfl (hPB _ rfl) fun K hK => ?_
    refine wps_cons rfl fun K hK => ?_; simp [hN']; refine hK _ ?_; clear hK
    refine wps_nil (hK _ ?_); clear hK
    cases h
    refine SWp.ret ?_
    simp [thenS, inBlockS, res72]
end Go.Proofs.T
set_option linter.unusedVariables false
set_option linter.unusedSimpArgs false
set_option maxHeartbeats 1000000
namespace Go.Proofs.T
open Go.OM
theorem res29 : Tryd.f29.results.toList = [.tmp 4] := rfl
theorem ent29 : Enters E.P 29 := enters_of Tryd.func29 (by simp [Tryd.f29]) rfl
theorem laws_eqProgram_ok (a1 : GProgram) (b2 : GProgram) {r0 : Bool} (h : laws_eqProgram a1 b2 = some r0) : Ok E 29 [.val (GProgram.enc false a1), .val (GProgram.enc false b2)] [vb r0] [] := by
  refine ok_of_body (fn := Tryd.f29) Tryd.func29 rfl (by simp [Tryd.f29]) fun C hN hP => ?_
  have hPB : ∀ l, pinK [] l = true → pinB C.pin l = true := pinB_of (by rw [hP]; rfl)
  have hN' : C.N = 17 := hN
  clear hN
  unfold laws_eqProgram at h
  refine SWp.seqR rfl (hPB _ rfl) fun K hK => ?_
  iterate 3 (refine wps_cons rfl fun K hK => ?_; simp [hN']; refine hK _ ?_; clear hK)
  refine wps_nil (hK _ ?_); clear hK
  refine SWp.seq ?_
  refine SWp.seqR rfl (hPB _ rfl) fun K hK => ?_
  iterate 4 (refine wps_cons rfl fun K hK => ?_; simp [hN']; refine hK _ ?_; clear hK)
  obtain ⟨r3, hc4, h⟩ := bind_some h
  refine wps_call [(.take, .tmp 6), (.take, .tmp 8)] rfl rfl ent71 (laws_eqNodeS_ok _ _ hc4) fun K hK => ?_; simp [hN']; refine hK _ ?_; clear hK
  refine wps_cons rfl fun K hK => ?_; simp [hN']; refine hK _ ?_; clear hK
  refine wps_nil (hK _ ?_); clear hK
  rcases ite_or h with ⟨hb5, h⟩ | ⟨hb6, h⟩
  · refine SWp.condT' (b := !r3) (by simp) hb5 ?_
    refine SWp.seqR rfl (hPB _ rfl) fun K hK => ?_
    refine wps_cons rfl fun K hK => ?_; simp [hN']; refine hK _ ?_; clear hK
    refine wps_nil (hK _ ?_); clear hK
    cases h
    refine SWp.ret ?_
    simp [thenS, inBlockS, res29]
  · refine SWp.condF' (b := !r3) (by simp) hb6 ?_
    refine SWp.skip ?_
    show SWp E C _ _ _
    refine SWp.seq ?_
    refine SWp.seqR rfl (hPB _ rfl) fun K hK => ?_
    iterate 4 (refine wps_cons rfl fun K hK => ?_; simp [hN']; refine hK _ ?_; clear hK)
    obtain ⟨r7, hc8, h⟩ := bind_some h
    refine wps_call [(.take, .tmp 12), (.take, .tmp 14)] rfl rfl ent72 (laws_eqFnS_ok _ _ hc8) fun K hK => ?_; simp [hN']; refine hK _ ?_; clear hK
    refine wps_cons rfl fun K hK => ?_; simp [hN']; refine hK _ ?_; clear hK
    refine wps_nil (hK _ ?_); clear hK
    rcases ite_or h with ⟨hb9, h⟩ | ⟨hb10, h⟩
    · refine SWp.condT' (b := !r7) (by simp) hb9 ?_
      refine SWp.seqR rfl (hPB _ rfl) fun K hK => ?_
      refine wps_cons rfl fun K hK => ?_; simp [hN']; refine hK _ ?_; clear hK
      refine wps_nil (hK _ ?_); clear hK
      cases h
      refine SWp.ret ?_
      simp [thenS, inBlockS, res29]
    · refine SWp.condF' (b := !r7) (by simp) hb10 ?_
      refine SWp.skip ?_
      show SWp E C _ _ _
      refine SWp.seqR rfl (hPB _ rfl) fun K hK => ?_
      refine wps_cons rfl fun K hK => ?_; simp [hN']; refine hK _ ?_; clear hK
      refine wps_nil (hK _ ?_); clear hK
      cases h
      refine SWp.ret ?_
      simp [thenS, inBlockS, res29]
end Go.Proofs.T
set_option linter.unusedVariables false
set_option linter.unusedSimpArgs false
set_option maxHeartbeats 1000000
namespace Go.Proofs.T
open Go.OM
theorem res5 : Tryd.f5.results.toList = [.tmp 2] := rfl
theorem laws_FnExactMeasured_ok (aP1 : GProgram) {r0 : Bool} (h : laws_FnExactMeasured aP1 = some r0) : Ok E 5 [.val (GProgram.enc false aP1)] [vb r0] [] := by
  refine ok_of_body (fn := Tryd.f5) Tryd.func5 rfl (by simp [Tryd.f5]) fun C hN hP => ?_
  have hPB : ∀ l, pinK [] l = true → pinB C.pin l = true := pinB_of (by rw [hP]; rfl)
  have hN' : C.N = 28 := hN
  clear hN
  unfold laws_FnExactMeasured at h
  refine SWp.seqR rfl (hPB _ rfl) fun K hK => ?_
  iterate 2 (refine wps_cons rfl fun K hK => ?_; simp [hN']; refine hK _ ?_; clear hK)
  refine wps_nil (hK _ ?_); clear hK
  refine SWp.seqR rfl (hPB _ rfl) fun K hK => ?_
  refine wps_cons rfl fun K hK => ?_; simp [hN']; refine hK _ ?_; clear hK
  refine wps_nil (hK _ ?_); clear hK
  refine SWp.seqR rfl (hPB _ rfl) fun K hK => ?_
  iterate 2 (refine wps_cons rfl fun K hK => ?_; simp [hN']; refine hK _ ?_; clear hK)
  obtain ⟨r2, hc3, h⟩ := bind_some h
  refine wps_call [(.take, .tmp 7), (.take, .tmp 8)] rfl rfl ent24 (laws_szProgram_ok _ _ hc3) fun K hK => ?_; simp [hN']; refine hK _ ?_; clear hK
  refine wps_cons rfl fun K hK => ?_; simp [hN']; refine hK _ ?_; clear hK
  refine wps_nil (hK _ ?_); clear hK
  refine SWp.seq ?_
  refine SWp.seqR rfl (hPB _ rfl) fun K hK => ?_
  iterate 2 (refine wps_cons rfl fun K hK => ?_; simp [hN']; refine hK _ ?_; clear hK)
  refine wps_nil (hK _ ?_); clear hK
  rcases ite_or h with ⟨hb4, h⟩ | ⟨hb5, h⟩
  · refine SWp.condT' (b := decide (r2 < 0)) (by simp) hb4 ?_
    refine SWp.seqR rfl (hPB _ rfl) fun K hK => ?_
    refine wps_cons rfl fun K hK => ?_; simp [hN']; refine hK _ ?_; clear hK
    refine wps_nil (hK _ ?_); clear hK
    cases h
    refine SWp.ret ?_
    simp [thenS, inBlockS, res5]
  · refine SWp.condF' (b := decide (r2 < 0)) (by simp) hb5 ?_
    refine SWp.skip ?_
    show SWp E C _ _ _
    refine SWp.seqR rfl (hPB _ rfl) fun K hK => ?_
    refine wps_cons rfl fun K hK => ?_; simp [hN']; refine hK _ ?_; clear hK
    obtain ⟨r6, hc7, h⟩ := bind_some h
    refine wps_call [(.take, .tmp 12)] rfl rfl ent26 (laws_toProgram_ok _ hc7) fun K hK => ?_; simp [hN']; refine hK _ ?_; clear hK
    obtain ⟨r8, hc9, h⟩ := bind_some h
    refine wps_call [(.bor, .tmp 13)] rfl rfl ent25 (spec_Measured_ok _ hc9) fun K hK => ?_; simp [hN']; refine hK _ ?_; clear hK
    iterate 2 (refine wps_cons rfl fun K hK => ?_; simp [hN']; refine hK _ ?_; clear hK)
    refine wps_nil (hK _ ?_); clear hK
    refine SWp.seqR rfl (hPB _ rfl) fun K hK => ?_
    refine wps_cons rfl fun K hK => ?_; simp [hN']; refine hK _ ?_; clear hK
    obtain ⟨r10, hc11, h⟩ := bind_some h
    refine wps_call [(.take, .tmp 15)] rfl rfl ent26 (laws_toProgram_ok _ hc11) fun K hK => ?_; simp [hN']; refine hK _ ?_; clear hK
    iterate 2 (refine wps_cons rfl fun K hK => ?_; simp [hN']; refine hK _ ?_; clear hK)
    refine wps_nil (hK _ ?_); clear hK
    refine SWp.seqR rfl (hPB _ rfl) fun K hK => ?_
    refine wps_cons rfl fun K hK => ?_; simp [hN']; refine hK _ ?_; clear hK
    obtain ⟨r12, hc13, h⟩ := bind_some h
    refine wps_call [(.bor, .tmp 17)] rfl rfl ent27 (impl_Measured_ok _ hc13) fun K hK => ?_; simp [hN']; refine hK _ ?_; clear hK
    iterate 2 (refine wps_cons rfl fun K hK => ?_; simp [hN']; refine hK _ ?_; clear hK)
    refine wps_nil (hK _ ?_); clear hK
    refine SWp.seq ?_
    refine SWp.seqR rfl (hPB _ rfl) fun K hK => ?_
    iterate 2 (refine wps_cons rfl fun K hK => ?_; simp [hN']; refine hK _ ?_; clear hK)
    obtain ⟨r14, hc15, h⟩ := bind_some h
    refine wps_call [(.take, .tmp 19), (.take, .tmp 20)] rfl rfl ent28 (laws_eqMeasure_ok _ _ hc15) fun K hK => ?_; simp [hN']; refine hK _ ?_; clear hK
    refine wps_cons rfl fun K hK => ?_; simp [hN']; refine hK _ ?_; clear hK
    refine wps_nil (hK _ ?_); clear hK
    rcases ite_or h with ⟨hb16, h⟩ | ⟨hb17, h⟩
    · refine SWp.condT' (b := !r14) (by simp) hb16 ?_
      refine SWp.seqR rfl (hPB _ rfl) fun K hK => ?_
      refine wps_cons rfl fun K hK => ?_; simp [hN']; refine hK _ ?_; clear hK
      refine wps_nil (hK _ ?_); clear hK
      cases h
      refine SWp.ret ?_
      simp [thenS, inBlockS, res5]
    · refine SWp.condF' (b := !r14) (by simp) hb17 ?_
      refine SWp.skip ?_
      show SWp E C _ _ _
      refine SWp.seq ?_
      refine SWp.seq ?_
      obtain ⟨r19, hc20, h⟩ := bind_some h
      refine SWp.drawT rfl (hPB _ rfl) [(23, .al (.box 5) 0 [] (some 2)), (24, .t (GProgram.enc false aP1)), (25, .t (GProgram.enc true r19))] [[], [], [1], [0, 1, 2], [0, 1, 2, 3]] (by simp) (by simp) (by simp [look]) rfl rfl rfl ?_ fun K hK => ?_
      · refine ⟨?_, ?_, ?_, trivial⟩
        all_goals (intro τ hbx hb hd hf K hK; try simp [vsAt] at hd; simp [vsAt] at hf; first | (refine wps_cons rfl fun K' hK' => ?_; simp [hN', hbx, hb, hd, hf]; exact hK' _ (wps_nil (hK _ (by simp [vsAt, hbx])))) | (refine wps_call [(.take, .tmp 24)] rfl rfl ent26 (laws_toProgram_ok _ hc20) fun K' hK' => ?_; simp [hN', hbx, hb, hd, hf]; exact hK' _ (wps_nil (hK _ (by simp [vsAt, hbx])))))
      obtain ⟨r21, hc22, h⟩ := bind_some h
      refine wps_call [(.bor, .tmp 23), (.bor, .tmp 25)] rfl rfl ent29 (laws_eqProgram_ok _ _ hc22) fun K hK => ?_; simp [hN']; refine hK _ ?_; clear hK
      refine wps_cons rfl fun K hK => ?_; simp [hN']; refine hK _ ?_; clear hK
      refine wps_nil (hK _ ?_); clear hK
      show SWp E C _ _ _
      rcases ite_or h with ⟨hb23, h⟩ | ⟨hb24, h⟩
      · refine SWp.condT' (b := !r21) (by simp) hb23 ?_
        refine SWp.seqR rfl (hPB _ rfl) fun K hK => ?_
        refine wps_cons rfl fun K hK => ?_; simp [hN']; refine hK _ ?_; clear hK
        refine wps_nil (hK _ ?_); clear hK
        cases h
        refine SWp.ret ?_
        simp [thenS, inBlockS, res5]
      · refine SWp.condF' (b := !r21) (by simp) hb24 ?_
        refine SWp.skip ?_
        show SWp E C _ _ _
        refine SWp.seqR rfl (hPB _ rfl) fun K hK => ?_
        refine wps_cons rfl fun K hK => ?_; simp [hN']; refine hK _ ?_; clear hK
        refine wps_nil (hK _ ?_); clear hK
        cases h
        refine SWp.ret ?_
        simp [thenS, inBlockS, res5]
end Go.Proofs.T
set_option linter.unusedVariables false
set_option linter.unusedSimpArgs false
namespace Go.OM
theorem w64 {n : Int} (h1 : -9223372036854775808 ≤ n) (h2 : n ≤ 9223372036854775807) : IntKind.wrap .i64 n = n := wrap64 h1 h2
theorem w64_succ {k n : Nat} (hk : k < n) (hn : n ≤ maxLen) : IntKind.wrap .i64 ((k : Int) + 1) = ((k + 1 : Nat) : Int) := by
  have hn' : n ≤ 9223372036854775807 := hn
  rw [w64 (by omega) (by omega)]; omega
@[simp] theorem getI_nat {α : Type} (l : List α) (k : Nat) : getI l (k : Int) = l[k]? := by simp [getI]
theorem getI_at {α : Type} {l : List α} {k : Nat} (hk : k < l.length) : getI l (k : Int) = some l[k] := by simp [hk]
theorem sEq_iff (x y : ByteArray) : sEq x y = decide (x = y) := by
  unfold sEq
  have hxy : x.toList = y.toList ↔ x = y := by
    constructor
    · intro h
      have hx : ∀ z : ByteArray, z.toList = z.data.toList := by
        intro z
        have loop : ∀ (n i : Nat) (r : List UInt8), z.size - i = n → ByteArray.toList.loop z i r = r.reverse ++ z.data.toList.drop i := by
          intro n
          induction n with
          | zero =>
            intro i r hn
            unfold ByteArray.toList.loop
            rw [if_neg (by omega), List.drop_eq_nil_of_le (by have : z.data.toList.length = z.size := Array.length_toList
                                                              omega)]
            simp
          | succ n ih =>
            intro i r hn
            unfold ByteArray.toList.loop
            rw [if_pos (by omega), ih (i + 1) _ (by omega)]
            have hlt : i < z.data.toList.length := by have : z.data.toList.length = z.size := Array.length_toList
                                                      omega
            rw [List.drop_eq_getElem_cons hlt]
            have hz : i < z.size := by omega
            simp [ByteArray.get!, Array.getElem!_eq_getD, Array.getD, hz]
        unfold ByteArray.toList
        rw [loop _ 0 [] rfl]; simp
      rw [hx, hx] at h
      cases x; cases y
      simp only [ByteArray.mk.injEq]
      exact Array.toList_inj.1 h
    · intro h; rw [h]
  by_cases h : x = y
  · simp [h]
  · have : ¬ (x.toList = y.toList) := fun e => h (hxy.1 e)
    simp [h, this]
theorem ofNat_lt_true {k n : Nat} (h : k < n) : decide ((k : Int) < (n : Int)) = true := by simpa using h
theorem szS_gen {α : Type} (ok : α → Prop) (a : List α) (f : Int × Int → Option ((Int × Int) ⊕ (Int ⊕ Int))) (B : Int)
    (hf : ∀ (m : Int) (k : Nat) (h0 : 0 ≤ m) (h1 : m ≤ B) (hk : k < a.length), ∃ r, r ≤ m ∧ (0 ≤ r → ok a[k]) ∧ f (m, k) = some (if r < 0 then .inr (.inr (-1)) else .inl (r, ((k + 1 : Nat) : Int))))
    (he : ∀ m, f (m, a.length) = some (.inr (.inl m))) (n : Int) (h0 : 0 ≤ n) (h1 : n ≤ B) :
    ∃ j, loopP f (n, 0) = some j ∧ (j = .inr (-1) ∨ ∃ m, j = .inl m ∧ 0 ≤ m ∧ m ≤ n ∧ ∀ x ∈ a, ok x) := by
  refine loopP_run (f := f) (fun s : Int × Int => ∃ k : Nat, s.2 = k ∧ k ≤ a.length ∧ 0 ≤ s.1 ∧ s.1 ≤ n ∧ ∀ (j : Nat) (h : j < a.length), j < k → ok a[j]) (fun s => a.length - s.2.toNat) _ ?_ (n, 0) ⟨0, rfl, by omega, h0, by simp, fun j _ h => by omega⟩
  rintro ⟨m, i⟩ ⟨k, hi, hk, h2, h3, h4⟩
  simp only at hi h2 h3
  subst hi
  by_cases hlt : k < a.length
  · obtain ⟨r, r1, r2, r3⟩ := hf m k h2 (by omega) hlt
    rw [r3]
    by_cases hr : r < 0
    · right
      rw [if_pos hr]
      exact ⟨_, rfl, .inl rfl⟩
    · left
      rw [if_neg hr]
      refine ⟨_, rfl, ⟨k + 1, rfl, by omega, by simp only; omega, by simp only; omega, fun j h hj => ?_⟩, ?_⟩
      · by_cases e : j = k
        · subst e; exact r2 (by omega)
        · exact h4 j h (by omega)
      · simp only [Int.toNat_natCast]; omega
  · right
    have hke : k = a.length := by omega
    subst hke
    rw [he]
    refine ⟨_, rfl, .inr ⟨m, rfl, h2, h3, fun x hx => ?_⟩⟩
    obtain ⟨j, hj, rfl⟩ := List.mem_iff_getElem.1 hx
    exact h4 j hj hj
theorem toS_gen {α : Type} (a : List α) (z : α) (f : List α × Int → Option ((List α × Int) ⊕ List α))
    (hf : ∀ (out : List α) (k : Nat) (hk : k < a.length), out.length = a.length → f (out, k) = some (.inl (out.set k a[k], ((k + 1 : Nat) : Int))))
    (he : ∀ out, f (out, a.length) = some (.inr out)) : loopP f (List.replicate a.length z, 0) = some a := by
  obtain ⟨r, h1, h2⟩ := loopP_run (fun s : List α × Int => ∃ k : Nat, s.2 = k ∧ k ≤ a.length ∧ s.1.length = a.length ∧ ∀ j, j < k → s.1[j]? = a[j]?) (fun s => a.length - s.2.toNat) (fun r => r = a) (f := f) (by
    rintro ⟨out, i⟩ ⟨k, hi, hk, h2, h3⟩
    simp only at hi h2 h3
    subst hi
    by_cases hlt : k < a.length
    · left
      rw [hf out k hlt h2]
      refine ⟨_, rfl, ⟨k + 1, rfl, by omega, by simpa using h2, fun j hj => ?_⟩, by simp only [Int.toNat_natCast]; omega⟩
      simp only [List.getElem?_set]
      by_cases e : k = j
      · subst e; simp [h2, hlt]
      · rw [if_neg e]; exact h3 j (by omega)
    · right
      have hke : k = a.length := by omega
      subst hke
      rw [he]
      refine ⟨_, rfl, ?_⟩
      apply List.ext_getElem?
      intro j
      by_cases hj : j < a.length
      · exact h3 j hj
      · rw [List.getElem?_eq_none (by omega), List.getElem?_eq_none (by omega)]) (List.replicate a.length z, 0) ⟨0, rfl, by omega, by simp, fun j h => by omega⟩
  rw [h1, h2]
theorem eqS_gen {α : Type} (a b : List α) (p : α → α → Bool) (hp : ∀ x ∈ a, ∀ y, y ∈ b → (p x y = true ↔ x = y)) (hlen : a.length = b.length) (f : Int → Option (Int ⊕ (Unit ⊕ Bool)))
    (hf : ∀ (k : Nat) (hk : k < a.length) (hk2 : k < b.length), f k = some (if p a[k] b[k] = true then .inl ((k + 1 : Nat) : Int) else .inr (.inr false)))
    (he : f a.length = some (.inr (.inl ()))) : (a = b → loopP f 0 = some (.inl ())) ∧ (a ≠ b → loopP f 0 = some (.inr false)) := by
  obtain ⟨r, h1, h2⟩ := loopP_run (fun i : Int => ∃ k : Nat, i = k ∧ k ≤ a.length ∧ ∀ j, j < k → a[j]? = b[j]?) (fun i => a.length - i.toNat) (fun r => (r = .inl () ∧ a = b) ∨ (r = .inr false ∧ a ≠ b)) (f := f) (by
    rintro i ⟨k, rfl, hk, h3⟩
    by_cases hlt : k < a.length
    · have hlt2 : k < b.length := by omega
      rw [hf k hlt hlt2]
      by_cases hpk : p a[k] b[k] = true
      · left
        rw [if_pos hpk]
        refine ⟨_, rfl, ⟨k + 1, rfl, by omega, fun j hj => ?_⟩, by simp only [Int.toNat_natCast]; omega⟩
        by_cases e : j = k
        · subst e
          rw [List.getElem?_eq_getElem hlt, List.getElem?_eq_getElem hlt2, (hp _ (List.getElem_mem hlt) _ (List.getElem_mem hlt2)).1 hpk]
        · exact h3 j (by omega)
      · right
        rw [if_neg hpk]
        refine ⟨_, rfl, .inr ⟨rfl, fun e => hpk ?_⟩⟩
        subst e
        exact (hp _ (List.getElem_mem hlt) _ (List.getElem_mem hlt)).2 rfl
    · right
      have hke : k = a.length := by omega
      subst hke
      rw [he]
      refine ⟨_, rfl, .inl ⟨rfl, ?_⟩⟩
      apply List.ext_getElem?
      intro j
      by_cases hj : j < a.length
      · exact h3 j hj
      · rw [List.getElem?_eq_none (by omega), List.getElem?_eq_none (by omega)]) 0 ⟨0, rfl, by omega, fun j h => by omega⟩
  rcases h2 with ⟨e, hab⟩ | ⟨e, hab⟩
  · exact ⟨fun _ => by rw [h1, e], fun h => absurd hab h⟩
  · exact ⟨fun h => absurd h hab, fun _ => by rw [h1, e]⟩
theorem mkI_len {α : Type} (b : Int) (n : Nat) (z : α) (h1 : b * n ≤ 140737488355328) (h2 : (n : Int) ≤ 140737488355328) : mkI b (n : Int) z = some (List.replicate n z) := by
  unfold mkI
  rw [if_pos ⟨by omega, h1, h2⟩]
  simp
theorem bindS_def {α β : Type} (x : α) (f : α → β) : bindS x f = f x := rfl
end Go.OM
set_option linter.unusedVariables false
set_option linter.unusedSimpArgs false
namespace Go.OM
theorem loopP_inr {α ρ : Type} {f : α → Option (α ⊕ ρ)} {a : α} {r : ρ} (h : f a = some (.inr r)) : loopP f a = some r := by rw [loopP_eq, h]; rfl
theorem loopP_inl {α ρ : Type} {f : α → Option (α ⊕ ρ)} {a b : α} (h : f a = some (.inl b)) : loopP f a = loopP f b := by rw [loopP_eq, h]; rfl
theorem loopP_find {α ρ : Type} (l : List α) (q : α → Option ρ) (f : Int → Option (Int ⊕ (Unit ⊕ ρ)))
    (hf : ∀ (k : Nat) (h : k < l.length), f k = some (match q l[k] with | none => .inl ((k + 1 : Nat) : Int) | some r => .inr (.inr r)))
    (he : f l.length = some (.inr (.inl ()))) : loopP f 0 = some (match l.findSome? q with | some r => .inr r | none => .inl ()) := by
  have key : ∀ (n k : Nat), n = l.length - k → k ≤ l.length → loopP f k = some (match (l.drop k).findSome? q with | some r => .inr r | none => .inl ()) := by
    intro n
    induction n with
    | zero =>
      intro k hn hk
      have : k = l.length := by omega
      subst this
      rw [loopP_inr he, List.drop_length]; rfl
    | succ n ih =>
      intro k hn hk
      have hlt : k < l.length := by omega
      rw [List.drop_eq_getElem_cons hlt, List.findSome?_cons]
      cases hq : q l[k] with
      | none =>
        have h1 := hf k hlt
        rw [hq] at h1
        rw [loopP_inl h1]
        exact ih (k + 1) (by omega) (by omega)
      | some r =>
        have h1 := hf k hlt
        rw [hq] at h1
        rw [loopP_inr h1]
  have := key l.length 0 (by omega) (by omega)
  simpa using this
theorem find_all {α : Type} (l : List α) (p : α → Bool) (b : Bool) : l.findSome? (fun x => if p x = true then none else some b) = if l.all p = true then none else some b := by
  induction l with
  | nil => rfl
  | cons x l ih =>
    rw [List.findSome?_cons, List.all_cons]
    cases hp : p x <;> simp [ih]
theorem find_any {α : Type} (l : List α) (p : α → Bool) (b : Bool) : l.findSome? (fun x => if p x = true then some b else none) = if l.any p = true then some b else none := by
  induction l with
  | nil => rfl
  | cons x l ih =>
    rw [List.findSome?_cons, List.any_cons]
    cases hp : p x <;> simp [ih]
theorem loopP_all {α : Type} (l : List α) (p : α → Bool) (f : Int → Option (Int ⊕ (Unit ⊕ Bool)))
    (hf : ∀ (k : Nat) (h : k < l.length), f k = some (if p l[k] = true then .inl ((k + 1 : Nat) : Int) else .inr (.inr false)))
    (he : f l.length = some (.inr (.inl ()))) : loopP f 0 = some (if l.all p = true then .inl () else .inr false) := by
  rw [loopP_find l (fun x => if p x = true then none else some false) f (fun k h => by rw [hf k h]; cases p l[k] <;> rfl) he, find_all]
  cases l.all p <;> rfl
theorem loopP_any {α : Type} (l : List α) (p : α → Bool) (f : Int → Option (Int ⊕ (Unit ⊕ Bool)))
    (hf : ∀ (k : Nat) (h : k < l.length), f k = some (if p l[k] = true then .inr (.inr true) else .inl ((k + 1 : Nat) : Int)))
    (he : f l.length = some (.inr (.inl ()))) : loopP f 0 = some (if l.any p = true then .inr true else .inl ()) := by
  rw [loopP_find l (fun x => if p x = true then some true else none) f (fun k h => by rw [hf k h]; cases p l[k] <;> rfl) he, find_any]
  cases l.any p <;> rfl
def foldE {α σ ρ : Type} (g : σ → α → σ ⊕ ρ) (fin : σ → ρ) : List α → σ → ρ
  | [], s => fin s
  | x :: l, s => match g s x with
    | .inl s' => foldE g fin l s'
    | .inr r => r
theorem loopP_fold {α σ τ ρ : Type} (l : List α) (mk : σ → Nat → τ) (I : Nat → σ → Prop) (g : σ → α → σ ⊕ ρ) (fin : σ → ρ) (f : τ → Option (τ ⊕ ρ))
    (hf : ∀ (s : σ) (k : Nat) (h : k < l.length), I k s → (∃ s', g s l[k] = .inl s' ∧ f (mk s k) = some (.inl (mk s' (k + 1))) ∧ I (k + 1) s') ∨ ∃ r, g s l[k] = .inr r ∧ f (mk s k) = some (.inr r))
    (he : ∀ s, I l.length s → f (mk s l.length) = some (.inr (fin s))) (s : σ) (h0 : I 0 s) : loopP f (mk s 0) = some (foldE g fin l s) := by
  have key : ∀ (n k : Nat) (s : σ), n = l.length - k → k ≤ l.length → I k s → loopP f (mk s k) = some (foldE g fin (l.drop k) s) := by
    intro n
    induction n with
    | zero =>
      intro k s hn hk hI
      have : k = l.length := by omega
      subst this
      rw [loopP_inr (he s hI), List.drop_length]; rfl
    | succ n ih =>
      intro k s hn hk hI
      have hlt : k < l.length := by omega
      rw [List.drop_eq_getElem_cons hlt]
      rcases hf s k hlt hI with ⟨s', h1, h2, h3⟩ | ⟨r, h1, h2⟩
      · rw [loopP_inl h2, ih (k + 1) s' (by omega) (by omega) h3]
        simp only [foldE, h1]
      · rw [loopP_inr h2]
        simp only [foldE, h1]
  have := key l.length 0 s (by omega) (by omega) h0
  simpa using this
end Go.OM
set_option linter.unusedVariables false
set_option linter.unusedSimpArgs false
set_option maxHeartbeats 1000000
namespace Go.OM
def GIns.le (n : Nat) (a : GIns) : Prop := (a.Name.size ≤ n) ∧ (a.Args.length ≤ n)
theorem GIns.ext' (a b : GIns) : a = b ↔ a.Op = b.Op ∧ a.A = b.A ∧ a.B = b.B ∧ a.C = b.C ∧ a.Num = b.Num ∧ a.Name = b.Name ∧ a.Args = b.Args := by cases a; cases b; simp
def GCode.le (n : Nat) (a : GCode) : Prop := (a.Name.size ≤ n) ∧ (a.Locals.length ≤ n) ∧ (a.Words.length ≤ n ∧ ∀ x ∈ a.Words, GIns.le n x)
theorem GCode.ext' (a b : GCode) : a = b ↔ a.Name = b.Name ∧ a.Params = b.Params ∧ a.Locals = b.Locals ∧ a.Words = b.Words := by cases a; cases b; simp
def GNode.le (n : Nat) (a : GNode) : Prop := (a.Name.size ≤ n) ∧ (a.Kids.length ≤ n)
theorem GNode.ext' (a b : GNode) : a = b ↔ a.Kind = b.Kind ∧ a.Num = b.Num ∧ a.Name = b.Name ∧ a.Kids = b.Kids := by cases a; cases b; simp
def GParam.le (n : Nat) (a : GParam) : Prop := (a.Name.size ≤ n)
theorem GParam.ext' (a b : GParam) : a = b ↔ a.Name = b.Name ∧ a.Typ = b.Typ := by cases a; cases b; simp
def GFn.le (n : Nat) (a : GFn) : Prop := (a.Name.size ≤ n) ∧ (a.Params.length ≤ n ∧ ∀ x ∈ a.Params, GParam.le n x)
theorem GFn.ext' (a b : GFn) : a = b ↔ a.Name = b.Name ∧ a.Params = b.Params ∧ a.Res = b.Res ∧ a.Body = b.Body ∧ a.Ret = b.Ret := by cases a; cases b; simp
def GProgram.le (n : Nat) (a : GProgram) : Prop := (a.Nodes.length ≤ n ∧ ∀ x ∈ a.Nodes, GNode.le n x) ∧ (a.Fns.length ≤ n ∧ ∀ x ∈ a.Fns, GFn.le n x)
theorem GProgram.ext' (a b : GProgram) : a = b ↔ a.Nodes = b.Nodes ∧ a.Fns = b.Fns := by cases a; cases b; simp
def GMeasure.le (n : Nat) (a : GMeasure) : Prop := True
theorem GMeasure.ext' (a b : GMeasure) : a = b ↔ a.Fns = b.Fns ∧ a.Nodes = b.Nodes ∧ a.Steps = b.Steps ∧ a.Values = b.Values ∧ a.Blocks = b.Blocks ∧ a.Lets = b.Lets ∧ a.News = b.News ∧ a.Lends = b.Lends ∧ a.Deep = b.Deep := by cases a; cases b; simp
def GBlock.le (n : Nat) (a : GBlock) : Prop := (a.Next.length ≤ n)
theorem GBlock.ext' (a b : GBlock) : a = b ↔ a.From = b.From ∧ a.To = b.To ∧ a.Next = b.Next := by cases a; cases b; simp
def GLoan.le (n : Nat) (a : GLoan) : Prop := True
theorem GLoan.ext' (a b : GLoan) : a = b ↔ a.At = b.At ∧ a.Of = b.Of ∧ a.Mut = b.Mut := by cases a; cases b; simp
theorem laws_szIntS_p (a : List Int) (hw : a.length ≤ maxLen) (n : Int) (h0 : 0 ≤ n) (h1 : n ≤ 1048576) : ∃ r, laws_szIntS a n = some r ∧ r ≤ n ∧ (0 ≤ r → a.length ≤ 1048576) := by
  have hw' : a.length ≤ 9223372036854775807 := hw
  unfold laws_szIntS
  rw [w64 (by omega) (by omega)]
  split
  · exact ⟨_, rfl, by omega, fun h => by omega⟩
  · rename_i h; simp only [decide_eq_true_eq] at h; exact ⟨_, rfl, by omega, fun h => by omega⟩
theorem laws_toIntS_p (a : List Int) (h : a.length ≤ 1048576) : laws_toIntS a = some a := by
  have hl : a.length ≤ 1048576 := h
  unfold laws_toIntS
  rw [mkI_len _ _ _ (by omega) (by omega)]
  simp only [Option.bind_some]
  rw [toS_gen a _ (laws_toIntS_l1 a) (fun out k hk ho => ?_) (fun out => by simp [laws_toIntS_l1])]
  · rfl
  · simp only [laws_toIntS_l1, ofNat_lt_true hk, if_true, getI_at hk, Option.bind_some, getI_at (show k < out.length by omega), bindS_def, Int.toNat_natCast, w64_succ hk (show a.length ≤ maxLen by show _ ≤ 9223372036854775807; omega)]
theorem laws_eqIntS_p (a b : List Int) (ha : a.length ≤ 1048576) (hb : b.length ≤ 1048576) : laws_eqIntS a b = some (decide (a = b)) := by
  have hl : a.length ≤ 1048576 := ha
  unfold laws_eqIntS
  by_cases hlen : a.length = b.length
  · have hlen' : ((a.length : Int) != (b.length : Int)) = false := by simp [hlen]
    simp only [hlen', Bool.false_eq_true, if_false]
    have key := eqS_gen a b (fun x y => !(x != y)) (fun x _ y _ => by simp) hlen (laws_eqIntS_l1 a b) (fun k hk hk2 => ?_) (by simp [laws_eqIntS_l1])
    · by_cases e : a = b
      · rw [key.1 e]; simp [e]
      · rw [key.2 e]; simp [e]
    simp only [laws_eqIntS_l1, ofNat_lt_true hk, if_true, getI_at hk, getI_at hk2, Option.bind_some, w64_succ hk (show a.length ≤ maxLen by show _ ≤ 9223372036854775807; omega)]
    try (by_cases e : a[k] = b[k] <;> simp [e])
  · have hlen' : ((a.length : Int) != (b.length : Int)) = true := by simp; omega
    have hne : a ≠ b := fun e => hlen (by rw [e])
    simp [hlen', hne]
theorem laws_szNode_p (a : GNode) (hw : GNode.le maxLen a) (n : Int) (h0 : 0 ≤ n) (h1 : n ≤ 1048576) : ∃ r, laws_szNode a n = some r ∧ r ≤ n ∧ (0 ≤ r → GNode.le 1048576 a) := by
  obtain ⟨hw0, hw1⟩ := hw
  unfold laws_szNode
  have hs0 : a.Name.size ≤ 9223372036854775807 := hw0
  simp only [w64 (n := n - (a.Name.size : Int)) (by omega) (by omega)]
  by_cases hn0 : (n - (a.Name.size : Int)) < 0
  · simp only [hn0, decide_true, if_true]; exact ⟨_, rfl, by omega, fun h => by omega⟩
  simp only [hn0, decide_false, Bool.false_eq_true, if_false]
  obtain ⟨r1, q1a, q1b, q1c⟩ := laws_szIntS_p a.Kids hw1 (n - (a.Name.size : Int)) (by omega) (by omega)
  simp only [q1a, Option.bind_some]
  by_cases hn1 : r1 < 0
  · simp only [hn1, decide_true, if_true]; exact ⟨_, rfl, by omega, fun h => by omega⟩
  simp only [hn1, decide_false, Bool.false_eq_true, if_false]
  exact ⟨_, rfl, by omega, fun _ => ⟨by omega, q1c (by omega)⟩⟩
theorem laws_toNode_p (a : GNode) (h : GNode.le 1048576 a) : laws_toNode a = some a := by
  obtain ⟨h0, h1⟩ := h
  unfold laws_toNode
  simp only [laws_toIntS_p a.Kids h1, Option.bind_some]
theorem laws_eqNode_p (a b : GNode) (ha : GNode.le 1048576 a) (hb : GNode.le 1048576 b) : laws_eqNode a b = some (decide (a = b)) := by
  obtain ⟨ha0, ha1⟩ := ha
  obtain ⟨hb0, hb1⟩ := hb
  unfold laws_eqNode
  try simp only [sEq_iff, Option.bind_some, laws_eqIntS_p a.Kids b.Kids ha1 hb1]
  rw [show decide (a = b) = decide (a.Kind = b.Kind ∧ a.Num = b.Num ∧ a.Name = b.Name ∧ a.Kids = b.Kids) from by simp only [GNode.ext' a b]]
  by_cases e0 : a.Kind = b.Kind <;> by_cases e1 : a.Num = b.Num <;> by_cases e2 : a.Name = b.Name <;> by_cases e3 : a.Kids = b.Kids <;> simp [e0, e1, e2, e3]
theorem laws_szNodeS_p (a : List GNode) (hw : a.length ≤ maxLen ∧ ∀ x ∈ a, GNode.le maxLen x) (n : Int) (h0 : 0 ≤ n) (h1 : n ≤ 1048576) : ∃ r, laws_szNodeS a n = some r ∧ r ≤ n ∧ (0 ≤ r → a.length ≤ 1048576 ∧ ∀ x ∈ a, GNode.le 1048576 x) := by
  have hw' : a.length ≤ 9223372036854775807 := hw.1
  unfold laws_szNodeS
  rw [w64 (by omega) (by omega)]
  split
  · exact ⟨_, rfl, by omega, fun h => by omega⟩
  · rename_i h
    simp only [decide_eq_true_eq] at h
    have hf : ∀ (m : Int) (k : Nat) (g0 : 0 ≤ m) (g1 : m ≤ 1048576) (hk : k < a.length), ∃ r, r ≤ m ∧ (0 ≤ r → (fun x : GNode => GNode.le 1048576 x) a[k]) ∧ laws_szNodeS_l1 a (m, k) = some (if r < 0 then .inr (.inr (-1)) else .inl (r, ((k + 1 : Nat) : Int))) := by
      intro m k g0 g1 hk
      obtain ⟨r, r1, r2, r3⟩ := laws_szNode_p a[k] (hw.2 _ (List.getElem_mem hk)) m g0 g1
      refine ⟨r, r2, r3, ?_⟩
      simp only [laws_szNodeS_l1, ofNat_lt_true hk, if_true, getI_at hk, Option.bind_some, r1, w64_succ hk hw.1]
      by_cases hr : r < 0 <;> simp [hr]
    obtain ⟨j, hj, hj2⟩ := szS_gen _ a (laws_szNodeS_l1 a) 1048576 hf (fun m => by simp [laws_szNodeS_l1]) (n - a.length) (by omega) (by omega)
    rcases hj2 with rfl | ⟨m, rfl, q1, q2, q3⟩
    · exact ⟨-1, by rw [hj]; rfl, by omega, fun h => by omega⟩
    · exact ⟨m, by rw [hj]; rfl, by omega, fun _ => ⟨by omega, q3⟩⟩
theorem laws_toNodeS_p (a : List GNode) (h : a.length ≤ 1048576 ∧ ∀ x ∈ a, GNode.le 1048576 x) : laws_toNodeS a = some a := by
  have hl : a.length ≤ 1048576 := h.1
  unfold laws_toNodeS
  rw [mkI_len _ _ _ (by omega) (by omega)]
  simp only [Option.bind_some]
  rw [toS_gen a _ (laws_toNodeS_l1 a) (fun out k hk ho => ?_) (fun out => by simp [laws_toNodeS_l1])]
  · rfl
  · simp only [laws_toNodeS_l1, ofNat_lt_true hk, if_true, getI_at hk, Option.bind_some, laws_toNode_p a[k] (h.2 _ (List.getElem_mem hk)), getI_at (show k < out.length by omega), bindS_def, Int.toNat_natCast, w64_succ hk (show a.length ≤ maxLen by show _ ≤ 9223372036854775807; omega)]
theorem laws_eqNodeS_p (a b : List GNode) (ha : a.length ≤ 1048576 ∧ ∀ x ∈ a, GNode.le 1048576 x) (hb : b.length ≤ 1048576 ∧ ∀ x ∈ b, GNode.le 1048576 x) : laws_eqNodeS a b = some (decide (a = b)) := by
  have hl : a.length ≤ 1048576 := ha.1
  unfold laws_eqNodeS
  by_cases hlen : a.length = b.length
  · have hlen' : ((a.length : Int) != (b.length : Int)) = false := by simp [hlen]
    simp only [hlen', Bool.false_eq_true, if_false]
    have key := eqS_gen a b (fun x y => decide (x = y)) (fun x _ y _ => by simp) hlen (laws_eqNodeS_l1 a b) (fun k hk hk2 => ?_) (by simp [laws_eqNodeS_l1])
    · by_cases e : a = b
      · rw [key.1 e]; simp [e]
      · rw [key.2 e]; simp [e]
    simp only [laws_eqNodeS_l1, ofNat_lt_true hk, if_true, getI_at hk, getI_at hk2, Option.bind_some, laws_eqNode_p a[k] b[k] (ha.2 _ (List.getElem_mem hk)) (hb.2 _ (List.getElem_mem hk2)), w64_succ hk (show a.length ≤ maxLen by show _ ≤ 9223372036854775807; omega)]
    try (by_cases e : a[k] = b[k] <;> simp [e])
  · have hlen' : ((a.length : Int) != (b.length : Int)) = true := by simp; omega
    have hne : a ≠ b := fun e => hlen (by rw [e])
    simp [hlen', hne]
theorem laws_szParam_p (a : GParam) (hw : GParam.le maxLen a) (n : Int) (h0 : 0 ≤ n) (h1 : n ≤ 1048576) : ∃ r, laws_szParam a n = some r ∧ r ≤ n ∧ (0 ≤ r → GParam.le 1048576 a) := by
  have hw0 := hw; unfold GParam.le at hw0
  unfold laws_szParam
  have hs0 : a.Name.size ≤ 9223372036854775807 := hw0
  simp only [w64 (n := n - (a.Name.size : Int)) (by omega) (by omega)]
  by_cases hn0 : (n - (a.Name.size : Int)) < 0
  · simp only [hn0, decide_true, if_true]; exact ⟨_, rfl, by omega, fun h => by omega⟩
  simp only [hn0, decide_false, Bool.false_eq_true, if_false]
  exact ⟨_, rfl, by omega, fun _ => (by unfold GParam.le; first | omega | exact trivial)⟩
theorem laws_toParam_p (a : GParam) (h : GParam.le 1048576 a) : laws_toParam a = some a := by
  have h0 := h; unfold GParam.le at h0
  unfold laws_toParam
  rfl
theorem laws_eqParam_p (a b : GParam) (ha : GParam.le 1048576 a) (hb : GParam.le 1048576 b) : laws_eqParam a b = some (decide (a = b)) := by
  have ha0 := ha; have hb0 := hb; unfold GParam.le at ha0 hb0
  unfold laws_eqParam
  try simp only [sEq_iff, Option.bind_some]
  rw [show decide (a = b) = decide (a.Name = b.Name ∧ a.Typ = b.Typ) from by simp only [GParam.ext' a b]]
  by_cases e0 : a.Name = b.Name <;> by_cases e1 : a.Typ = b.Typ <;> simp [e0, e1]
theorem laws_szParamS_p (a : List GParam) (hw : a.length ≤ maxLen ∧ ∀ x ∈ a, GParam.le maxLen x) (n : Int) (h0 : 0 ≤ n) (h1 : n ≤ 1048576) : ∃ r, laws_szParamS a n = some r ∧ r ≤ n ∧ (0 ≤ r → a.length ≤ 1048576 ∧ ∀ x ∈ a, GParam.le 1048576 x) := by
  have hw' : a.length ≤ 9223372036854775807 := hw.1
  unfold laws_szParamS
  rw [w64 (by omega) (by omega)]
  split
  · exact ⟨_, rfl, by omega, fun h => by omega⟩
  · rename_i h
    simp only [decide_eq_true_eq] at h
    have hf : ∀ (m : Int) (k : Nat) (g0 : 0 ≤ m) (g1 : m ≤ 1048576) (hk : k < a.length), ∃ r, r ≤ m ∧ (0 ≤ r → (fun x : GParam => GParam.le 1048576 x) a[k]) ∧ laws_szParamS_l1 a (m, k) = some (if r < 0 then .inr (.inr (-1)) else .inl (r, ((k + 1 : Nat) : Int))) := by
      intro m k g0 g1 hk
      obtain ⟨r, r1, r2, r3⟩ := laws_szParam_p a[k] (hw.2 _ (List.getElem_mem hk)) m g0 g1
      refine ⟨r, r2, r3, ?_⟩
      simp only [laws_szParamS_l1, ofNat_lt_true hk, if_true, getI_at hk, Option.bind_some, r1, w64_succ hk hw.1]
      by_cases hr : r < 0 <;> simp [hr]
    obtain ⟨j, hj, hj2⟩ := szS_gen _ a (laws_szParamS_l1 a) 1048576 hf (fun m => by simp [laws_szParamS_l1]) (n - a.length) (by omega) (by omega)
    rcases hj2 with rfl | ⟨m, rfl, q1, q2, q3⟩
    · exact ⟨-1, by rw [hj]; rfl, by omega, fun h => by omega⟩
    · exact ⟨m, by rw [hj]; rfl, by omega, fun _ => ⟨by omega, q3⟩⟩
theorem laws_toParamS_p (a : List GParam) (h : a.length ≤ 1048576 ∧ ∀ x ∈ a, GParam.le 1048576 x) : laws_toParamS a = some a := by
  have hl : a.length ≤ 1048576 := h.1
  unfold laws_toParamS
  rw [mkI_len _ _ _ (by omega) (by omega)]
  simp only [Option.bind_some]
  rw [toS_gen a _ (laws_toParamS_l1 a) (fun out k hk ho => ?_) (fun out => by simp [laws_toParamS_l1])]
  · rfl
  · simp only [laws_toParamS_l1, ofNat_lt_true hk, if_true, getI_at hk, Option.bind_some, laws_toParam_p a[k] (h.2 _ (List.getElem_mem hk)), getI_at (show k < out.length by omega), bindS_def, Int.toNat_natCast, w64_succ hk (show a.length ≤ maxLen by show _ ≤ 9223372036854775807; omega)]
theorem laws_eqParamS_p (a b : List GParam) (ha : a.length ≤ 1048576 ∧ ∀ x ∈ a, GParam.le 1048576 x) (hb : b.length ≤ 1048576 ∧ ∀ x ∈ b, GParam.le 1048576 x) : laws_eqParamS a b = some (decide (a = b)) := by
  have hl : a.length ≤ 1048576 := ha.1
  unfold laws_eqParamS
  by_cases hlen : a.length = b.length
  · have hlen' : ((a.length : Int) != (b.length : Int)) = false := by simp [hlen]
    simp only [hlen', Bool.false_eq_true, if_false]
    have key := eqS_gen a b (fun x y => decide (x = y)) (fun x _ y _ => by simp) hlen (laws_eqParamS_l1 a b) (fun k hk hk2 => ?_) (by simp [laws_eqParamS_l1])
    · by_cases e : a = b
      · rw [key.1 e]; simp [e]
      · rw [key.2 e]; simp [e]
    simp only [laws_eqParamS_l1, ofNat_lt_true hk, if_true, getI_at hk, getI_at hk2, Option.bind_some, laws_eqParam_p a[k] b[k] (ha.2 _ (List.getElem_mem hk)) (hb.2 _ (List.getElem_mem hk2)), w64_succ hk (show a.length ≤ maxLen by show _ ≤ 9223372036854775807; omega)]
    try (by_cases e : a[k] = b[k] <;> simp [e])
  · have hlen' : ((a.length : Int) != (b.length : Int)) = true := by simp; omega
    have hne : a ≠ b := fun e => hlen (by rw [e])
    simp [hlen', hne]
theorem laws_szFn_p (a : GFn) (hw : GFn.le maxLen a) (n : Int) (h0 : 0 ≤ n) (h1 : n ≤ 1048576) : ∃ r, laws_szFn a n = some r ∧ r ≤ n ∧ (0 ≤ r → GFn.le 1048576 a) := by
  obtain ⟨hw0, hw1⟩ := hw
  unfold laws_szFn
  have hs0 : a.Name.size ≤ 9223372036854775807 := hw0
  simp only [w64 (n := n - (a.Name.size : Int)) (by omega) (by omega)]
  by_cases hn0 : (n - (a.Name.size : Int)) < 0
  · simp only [hn0, decide_true, if_true]; exact ⟨_, rfl, by omega, fun h => by omega⟩
  simp only [hn0, decide_false, Bool.false_eq_true, if_false]
  obtain ⟨r1, q1a, q1b, q1c⟩ := laws_szParamS_p a.Params hw1 (n - (a.Name.size : Int)) (by omega) (by omega)
  simp only [q1a, Option.bind_some]
  by_cases hn1 : r1 < 0
  · simp only [hn1, decide_true, if_true]; exact ⟨_, rfl, by omega, fun h => by omega⟩
  simp only [hn1, decide_false, Bool.false_eq_true, if_false]
  exact ⟨_, rfl, by omega, fun _ => ⟨by omega, q1c (by omega)⟩⟩
theorem laws_toFn_p (a : GFn) (h : GFn.le 1048576 a) : laws_toFn a = some a := by
  obtain ⟨h0, h1⟩ := h
  unfold laws_toFn
  simp only [laws_toParamS_p a.Params h1, Option.bind_some]
theorem laws_eqFn_p (a b : GFn) (ha : GFn.le 1048576 a) (hb : GFn.le 1048576 b) : laws_eqFn a b = some (decide (a = b)) := by
  obtain ⟨ha0, ha1⟩ := ha
  obtain ⟨hb0, hb1⟩ := hb
  unfold laws_eqFn
  try simp only [sEq_iff, Option.bind_some, laws_eqParamS_p a.Params b.Params ha1 hb1]
  rw [show decide (a = b) = decide (a.Name = b.Name ∧ a.Params = b.Params ∧ a.Res = b.Res ∧ a.Body = b.Body ∧ a.Ret = b.Ret) from by simp only [GFn.ext' a b]]
  by_cases e0 : a.Name = b.Name <;> by_cases e1 : a.Params = b.Params <;> by_cases e2 : a.Res = b.Res <;> by_cases e3 : a.Body = b.Body <;> by_cases e4 : a.Ret = b.Ret <;> simp [e0, e1, e2, e3, e4]
theorem laws_szFnS_p (a : List GFn) (hw : a.length ≤ maxLen ∧ ∀ x ∈ a, GFn.le maxLen x) (n : Int) (h0 : 0 ≤ n) (h1 : n ≤ 1048576) : ∃ r, laws_szFnS a n = some r ∧ r ≤ n ∧ (0 ≤ r → a.length ≤ 1048576 ∧ ∀ x ∈ a, GFn.le 1048576 x) := by
  have hw' : a.length ≤ 9223372036854775807 := hw.1
  unfold laws_szFnS
  rw [w64 (by omega) (by omega)]
  split
  · exact ⟨_, rfl, by omega, fun h => by omega⟩
  · rename_i h
    simp only [decide_eq_true_eq] at h
    have hf : ∀ (m : Int) (k : Nat) (g0 : 0 ≤ m) (g1 : m ≤ 1048576) (hk : k < a.length), ∃ r, r ≤ m ∧ (0 ≤ r → (fun x : GFn => GFn.le 1048576 x) a[k]) ∧ laws_szFnS_l1 a (m, k) = some (if r < 0 then .inr (.inr (-1)) else .inl (r, ((k + 1 : Nat) : Int))) := by
      intro m k g0 g1 hk
      obtain ⟨r, r1, r2, r3⟩ := laws_szFn_p a[k] (hw.2 _ (List.getElem_mem hk)) m g0 g1
      refine ⟨r, r2, r3, ?_⟩
      simp only [laws_szFnS_l1, ofNat_lt_true hk, if_true, getI_at hk, Option.bind_some, r1, w64_succ hk hw.1]
      by_cases hr : r < 0 <;> simp [hr]
    obtain ⟨j, hj, hj2⟩ := szS_gen _ a (laws_szFnS_l1 a) 1048576 hf (fun m => by simp [laws_szFnS_l1]) (n - a.length) (by omega) (by omega)
    rcases hj2 with rfl | ⟨m, rfl, q1, q2, q3⟩
    · exact ⟨-1, by rw [hj]; rfl, by omega, fun h => by omega⟩
    · exact ⟨m, by rw [hj]; rfl, by omega, fun _ => ⟨by omega, q3⟩⟩
theorem laws_toFnS_p (a : List GFn) (h : a.length ≤ 1048576 ∧ ∀ x ∈ a, GFn.le 1048576 x) : laws_toFnS a = some a := by
  have hl : a.length ≤ 1048576 := h.1
  unfold laws_toFnS
  rw [mkI_len _ _ _ (by omega) (by omega)]
  simp only [Option.bind_some]
  rw [toS_gen a _ (laws_toFnS_l1 a) (fun out k hk ho => ?_) (fun out => by simp [laws_toFnS_l1])]
  · rfl
  · simp only [laws_toFnS_l1, ofNat_lt_true hk, if_true, getI_at hk, Option.bind_some, laws_toFn_p a[k] (h.2 _ (List.getElem_mem hk)), getI_at (show k < out.length by omega), bindS_def, Int.toNat_natCast, w64_succ hk (show a.length ≤ maxLen by show _ ≤ 9223372036854775807; omega)]
theorem laws_eqFnS_p (a b : List GFn) (ha : a.length ≤ 1048576 ∧ ∀ x ∈ a, GFn.le 1048576 x) (hb : b.length ≤ 1048576 ∧ ∀ x ∈ b, GFn.le 1048576 x) : laws_eqFnS a b = some (decide (a = b)) := by
  have hl : a.length ≤ 1048576 := ha.1
  unfold laws_eqFnS
  by_cases hlen : a.length = b.length
  · have hlen' : ((a.length : Int) != (b.length : Int)) = false := by simp [hlen]
    simp only [hlen', Bool.false_eq_true, if_false]
    have key := eqS_gen a b (fun x y => decide (x = y)) (fun x _ y _ => by simp) hlen (laws_eqFnS_l1 a b) (fun k hk hk2 => ?_) (by simp [laws_eqFnS_l1])
    · by_cases e : a = b
      · rw [key.1 e]; simp [e]
      · rw [key.2 e]; simp [e]
    simp only [laws_eqFnS_l1, ofNat_lt_true hk, if_true, getI_at hk, getI_at hk2, Option.bind_some, laws_eqFn_p a[k] b[k] (ha.2 _ (List.getElem_mem hk)) (hb.2 _ (List.getElem_mem hk2)), w64_succ hk (show a.length ≤ maxLen by show _ ≤ 9223372036854775807; omega)]
    try (by_cases e : a[k] = b[k] <;> simp [e])
  · have hlen' : ((a.length : Int) != (b.length : Int)) = true := by simp; omega
    have hne : a ≠ b := fun e => hlen (by rw [e])
    simp [hlen', hne]
theorem laws_szProgram_p (a : GProgram) (hw : GProgram.le maxLen a) (n : Int) (h0 : 0 ≤ n) (h1 : n ≤ 1048576) : ∃ r, laws_szProgram a n = some r ∧ r ≤ n ∧ (0 ≤ r → GProgram.le 1048576 a) := by
  obtain ⟨hw0, hw1⟩ := hw
  unfold laws_szProgram
  obtain ⟨r0, q0a, q0b, q0c⟩ := laws_szNodeS_p a.Nodes hw0 n (by omega) (by omega)
  simp only [q0a, Option.bind_some]
  by_cases hn0 : r0 < 0
  · simp only [hn0, decide_true, if_true]; exact ⟨_, rfl, by omega, fun h => by omega⟩
  simp only [hn0, decide_false, Bool.false_eq_true, if_false]
  obtain ⟨r1, q1a, q1b, q1c⟩ := laws_szFnS_p a.Fns hw1 r0 (by omega) (by omega)
  simp only [q1a, Option.bind_some]
  by_cases hn1 : r1 < 0
  · simp only [hn1, decide_true, if_true]; exact ⟨_, rfl, by omega, fun h => by omega⟩
  simp only [hn1, decide_false, Bool.false_eq_true, if_false]
  exact ⟨_, rfl, by omega, fun _ => ⟨q0c (by omega), q1c (by omega)⟩⟩
theorem laws_toProgram_p (a : GProgram) (h : GProgram.le 1048576 a) : laws_toProgram a = some a := by
  obtain ⟨h0, h1⟩ := h
  unfold laws_toProgram
  simp only [laws_toNodeS_p a.Nodes h0, laws_toFnS_p a.Fns h1, Option.bind_some]
theorem laws_eqProgram_p (a b : GProgram) (ha : GProgram.le 1048576 a) (hb : GProgram.le 1048576 b) : laws_eqProgram a b = some (decide (a = b)) := by
  obtain ⟨ha0, ha1⟩ := ha
  obtain ⟨hb0, hb1⟩ := hb
  unfold laws_eqProgram
  try simp only [sEq_iff, Option.bind_some, laws_eqNodeS_p a.Nodes b.Nodes ha0 hb0, laws_eqFnS_p a.Fns b.Fns ha1 hb1]
  rw [show decide (a = b) = decide (a.Nodes = b.Nodes ∧ a.Fns = b.Fns) from by simp only [GProgram.ext' a b]]
  by_cases e0 : a.Nodes = b.Nodes <;> by_cases e1 : a.Fns = b.Fns <;> simp [e0, e1]
theorem laws_eqMeasure_p (a b : GMeasure) (ha : GMeasure.le 1048576 a) (hb : GMeasure.le 1048576 b) : laws_eqMeasure a b = some (decide (a = b)) := by
  unfold laws_eqMeasure
  try simp only [sEq_iff, Option.bind_some]
  rw [show decide (a = b) = decide (a.Fns = b.Fns ∧ a.Nodes = b.Nodes ∧ a.Steps = b.Steps ∧ a.Values = b.Values ∧ a.Blocks = b.Blocks ∧ a.Lets = b.Lets ∧ a.News = b.News ∧ a.Lends = b.Lends ∧ a.Deep = b.Deep) from by simp only [GMeasure.ext' a b]]

  by_cases e0 : a.Fns = b.Fns
  case neg => simp [e0]
  by_cases e1 : a.Nodes = b.Nodes
  case neg => simp [e1, e0]
  by_cases e2 : a.Steps = b.Steps
  case neg => simp [e2, e0, e1]
  by_cases e3 : a.Values = b.Values
  case neg => simp [e3, e0, e1, e2]
  by_cases e4 : a.Blocks = b.Blocks
  case neg => simp [e4, e0, e1, e2, e3]
  by_cases e5 : a.Lets = b.Lets
  case neg => simp [e5, e0, e1, e2, e3, e4]
  by_cases e6 : a.News = b.News
  case neg => simp [e6, e0, e1, e2, e3, e4, e5]
  by_cases e7 : a.Lends = b.Lends
  case neg => simp [e7, e0, e1, e2, e3, e4, e5, e6]
  by_cases e8 : a.Deep = b.Deep
  case neg => simp [e8, e0, e1, e2, e3, e4, e5, e6, e7]
  simp [e0, e1, e2, e3, e4, e5, e6, e7, e8]
end Go.OM
set_option linter.unusedVariables false
set_option linter.unusedSimpArgs false
namespace Go.OM
theorem ite_some {α : Type} {c : Prop} [Decidable c] (a b : α) : (if c then some a else some b) = some (if c then a else b) := by split <;> rfl
def inB (x a b : Int) : Bool := decide (a ≤ x) && decide (x ≤ b)
theorem inB_iff {x a b : Int} : inB x a b = true ↔ a ≤ x ∧ x ≤ b := by simp [inB]
theorem inB_false {x a b : Int} : inB x a b = false ↔ ¬ (a ≤ x ∧ x ≤ b) := by rw [← inB_iff]; simp
theorem impl_in_eq (x a b : Int) : impl_in x a b = some (inB x a b) := by
  unfold impl_in inB
  by_cases h : a ≤ x <;> simp [h]
theorem spec_in_eq (x a b : Int) : spec_l01In x a b = some (inB x a b) := by
  unfold spec_l01In inB
  by_cases h : a ≤ x <;> simp [h]
def bI (z : ByteArray) : List Int := z.data.toList.map fun x => ((x.toNat : Nat) : Int)
theorem bI_length (z : ByteArray) : (bI z).length = z.size := by rw [bI, List.length_map]; exact Array.length_toList
theorem sAt_bI {z : ByteArray} {k : Nat} (h : k < (bI z).length) : sAt z k = some (bI z)[k] := by
  have h1 : k < z.size := by rw [← bI_length]; exact h
  unfold sAt
  rw [if_pos ⟨by omega, by omega⟩]
  simp only [byteAt, Int.toNat_natCast, bI]
  have e : z.data.toList.length = z.size := Array.length_toList
  have h2 : k < z.data.toList.length := by omega
  rw [List.getD_eq_getElem?_getD, List.getElem?_eq_getElem h2]
  simp only [Option.getD_some, List.getElem_map]
def letterB (b : Int) : Bool := inB b 97 122
def figureB (b : Int) : Bool := inB b 48 57
theorem impl_isLetter_eq (b : Int) : impl_isLetter b = some (letterB b) := by
  unfold impl_isLetter letterB inB
  by_cases h : 97 ≤ b <;> simp [h]
theorem impl_isFigure_eq (b : Int) : impl_isFigure b = some (figureB b) := by
  unfold impl_isFigure figureB inB
  by_cases h : 48 ≤ b <;> simp [h]
theorem spec_l03Letter_eq (b : Int) : spec_l03Letter b = some (letterB b) := by
  unfold spec_l03Letter letterB inB
  by_cases h : 97 ≤ b <;> simp [h]
theorem spec_l03Figure_eq (b : Int) : spec_l03Figure b = some (figureB b) := by
  unfold spec_l03Figure figureB inB
  by_cases h : 48 ≤ b <;> simp [h]
def keys : List ByteArray := [⟨#[102, 110]⟩, ⟨#[108, 101, 116]⟩, ⟨#[105, 102]⟩, ⟨#[101, 108, 115, 101]⟩, ⟨#[119, 104, 105, 108, 101]⟩, ⟨#[112, 114, 105, 110, 116]⟩, ⟨#[100, 111]⟩, ⟨#[110, 101, 119]⟩, ⟨#[99, 108, 111, 110, 101]⟩, ⟨#[109, 117, 116]⟩, ⟨#[105, 110, 112, 117, 116]⟩, ⟨#[105, 110, 116]⟩, ⟨#[98, 111, 120]⟩, ⟨#[114, 101, 116]⟩]
def keyB (s : ByteArray) : Bool := keys.any fun w => sEq w s
theorem keys_split : strings_Split (⟨#[102, 110, 32, 108, 101, 116, 32, 105, 102, 32, 101, 108, 115, 101, 32, 119, 104, 105, 108, 101, 32, 112, 114, 105, 110, 116, 32, 100, 111, 32, 110, 101, 119, 32, 99, 108, 111, 110, 101, 32, 109, 117, 116, 32, 105, 110, 112, 117, 116, 32, 105, 110, 116, 32, 98, 111, 120, 32, 114, 101, 116]⟩ : ByteArray) (⟨#[32]⟩ : ByteArray) = some keys := by kernel_rfl
theorem any_loop (l : List ByteArray) (s : ByteArray) (hl : l.length ≤ 1048576) (f : Int → Option (Int ⊕ (Unit ⊕ Bool)))
    (hf : ∀ i, f i = if (decide (i < (l.length : Int))) = true then (getI l i).bind fun e => if (sEq e s) = true then some (Sum.inr (Sum.inr true)) else some (Sum.inl (IntKind.wrap .i64 (i + 1))) else some (Sum.inr (Sum.inl ()))) :
    loopP f 0 = some (if (l.any fun w => sEq w s) = true then .inr true else .inl ()) := by
  refine loopP_any l (fun w => sEq w s) f (fun k hk => ?_) (by rw [hf]; simp)
  rw [hf]
  simp only [ofNat_lt_true hk, if_true, getI_at hk, Option.bind_some, w64_succ hk (show l.length ≤ maxLen by show _ ≤ 9223372036854775807; omega), ite_some]
theorem spec_KeyWord_eq (s : ByteArray) : spec_KeyWord s = some (keyB s) := by
  unfold spec_KeyWord spec_l03Keys
  simp only [Option.bind_some]
  have h := any_loop keys s (by decide) (spec_KeyWord_l1 s keys) (fun i => by simp only [spec_KeyWord_l1])
  unfold keys at h
  rw [h]
  unfold keyB keys
  simp only [Option.bind_some]
  split <;> rename_i h2 <;> split at h2 <;> simp_all
theorem impl_KeyWord_eq (s : ByteArray) : impl_KeyWord s = some (keyB s) := by
  unfold impl_KeyWord impl_oneOf
  rw [keys_split]
  simp only [Option.bind_some]
  rw [any_loop keys s (by decide) (impl_oneOf_l1 s keys) (fun i => by simp only [impl_oneOf_l1])]
  unfold keyB
  simp only [Option.bind_some]
  cases keys.any fun w => sEq w s <;> rfl
def charB (b : Int) : Bool := letterB b || figureB b
def nameB (s : ByteArray) : Bool := inB s.size 1 8 && (letterB ((bI s).getD 0 0) && ((bI s).all charB && !keyB s))
theorem name_loop (s : ByteArray) (hs : s.size ≤ 8) (f : Int → Option (Int ⊕ (Unit ⊕ Bool)))
    (hf : ∀ (k : Nat) (h : k < (bI s).length), f k = some (if charB (bI s)[k] = true then .inl (IntKind.wrap .i64 ((k : Int) + 1)) else .inr (.inr false)))
    (he : f s.size = some (.inr (.inl ()))) : loopP f 0 = some (if (bI s).all charB = true then .inl () else .inr false) := by
  refine loopP_all (bI s) charB f (fun k hk => ?_) (by rw [bI_length]; exact he)
  rw [hf k hk, w64_succ hk (show (bI s).length ≤ maxLen by rw [bI_length]; show _ ≤ 9223372036854775807; omega)]
theorem bI_zero {s : ByteArray} (h : 1 ≤ s.size) : sAt s 0 = some ((bI s).getD 0 0) := by
  have h1 : 0 < (bI s).length := by rw [bI_length]; omega
  have := sAt_bI h1
  rw [show ((0 : Nat) : Int) = 0 from rfl] at this
  rw [this, List.getD_eq_getElem?_getD, List.getElem?_eq_getElem h1]; rfl
theorem impl_NameOk_eq (s : ByteArray) : impl_NameOk s = some (nameB s) := by
  unfold impl_NameOk nameB
  simp only [impl_in_eq, Option.bind_some]
  by_cases hi : inB s.size 1 8 = true
  · have hi' := inB_iff.1 hi
    rw [bI_zero (by omega), name_loop s (by omega) (impl_NameOk_l1 s) (fun k hk => ?_) (by simp [impl_NameOk_l1])]
    · simp only [hi, impl_isLetter_eq, impl_KeyWord_eq, Option.bind_some, Bool.not_true, Bool.false_eq_true, if_false, Bool.true_and]
      cases letterB ((bI s).getD 0 0) <;> cases (bI s).all charB <;> cases keyB s <;> rfl
    · have hk2 : k < s.size := by rw [← bI_length]; exact hk
      simp only [impl_NameOk_l1, ofNat_lt_true hk2, if_true, sAt_bI hk, impl_isLetter_eq, impl_isFigure_eq, Option.bind_some]
      rw [show charB (bI s)[k] = (letterB (bI s)[k] || figureB (bI s)[k]) from rfl]
      cases letterB (bI s)[k] <;> cases figureB (bI s)[k] <;> rfl
  · simp [Bool.eq_false_iff.2 hi]
theorem spec_NameOk_eq (s : ByteArray) : spec_NameOk s = some (nameB s) := by
  unfold spec_NameOk nameB
  simp only [spec_in_eq, Option.bind_some]
  by_cases hi : inB s.size 1 8 = true
  · have hi' := inB_iff.1 hi
    rw [bI_zero (by omega), name_loop s (by omega) (spec_NameOk_l1 s) (fun k hk => ?_) (by simp [spec_NameOk_l1])]
    · simp only [hi, spec_l03Letter_eq, spec_KeyWord_eq, Option.bind_some, Bool.not_true, Bool.false_eq_true, if_false, Bool.true_and]
      cases letterB ((bI s).getD 0 0) <;> cases (bI s).all charB <;> cases keyB s <;> rfl
    · have hk2 : k < s.size := by rw [← bI_length]; exact hk
      simp only [spec_NameOk_l1, ofNat_lt_true hk2, if_true, sAt_bI hk, spec_l03Letter_eq, spec_l03Figure_eq, Option.bind_some]
      rw [show charB (bI s)[k] = (letterB (bI s)[k] || figureB (bI s)[k]) from rfl]
      cases letterB (bI s)[k] <;> cases figureB (bI s)[k] <;> rfl
  · simp [Bool.eq_false_iff.2 hi]
end Go.OM
set_option linter.unusedVariables false
set_option linter.unusedSimpArgs false
namespace Go.OM
theorem w64_pred {n : Nat} (h : n ≤ 1048576) : IntKind.wrap .i64 ((n : Int) - 1) = (n : Int) - 1 := w64 (by omega) (by omega)
end Go.OM
set_option linter.unusedVariables false
set_option linter.unusedSimpArgs false
namespace Go.OM
theorem foldE_inl {α σ ρ : Type} (h : σ → α → σ) (fin : σ → ρ) : ∀ (l : List α) (s : σ), foldE (fun s x => (.inl (h s x) : σ ⊕ ρ)) fin l s = fin (l.foldl h s)
  | [], s => rfl
  | x :: l, s => by simp only [foldE, List.foldl_cons]; exact foldE_inl h fin l _
theorem app1 {n : Nat} {s : List Int} {e : Int} (h : s.length ≤ 1048576) (hn : n ≤ 64) : appI n s [e] = some (s ++ [e]) := by
  unfold appI
  have h1 : (s.length + [e].length) * n ≤ (s.length + [e].length) * 64 := Nat.mul_le_mul_left _ hn
  rw [if_pos ⟨by simp only [List.length_cons, List.length_nil] at h1 ⊢; omega, by simp only [List.length_cons, List.length_nil]; omega⟩]
end Go.OM
set_option linter.unusedVariables false
set_option linter.unusedSimpArgs false
namespace Go.OM
inductive Reach (next : Nat → List Int) (root : Nat) : Nat → Prop
  | base : Reach next root root
  | step {i : Nat} {m : Int} : Reach next root i → m ∈ next i → Reach next root m.toNat
theorem Reach.congr {next next' : Nat → List Int} {root : Nat} (h : ∀ i m, m ∈ next i ↔ m ∈ next' i) {n : Nat} : Reach next root n ↔ Reach next' root n := by
  constructor
  · intro r
    induction r with
    | base => exact .base
    | step _ hm ih => exact .step ih ((h _ _).1 hm)
  · intro r
    induction r with
    | base => exact .base
    | step _ hm ih => exact .step ih ((h _ _).2 hm)
end Go.OM
set_option linter.unusedVariables false
set_option linter.unusedSimpArgs false
namespace Go.OM
abbrev Tab := List (List Bool)
structure TabOk (W L : Nat) (t : Tab) : Prop where
  len : t.length = W
  row : ∀ r ∈ t, r.length = L
theorem TabOk.set {W L : Nat} {t : Tab} (h : TabOk W L t) (n : Nat) {r : List Bool} (hr : r.length = L) : TabOk W L (t.set n r) :=
  ⟨by simpa using h.len, fun x hx => by
    rcases List.mem_or_eq_of_mem_set hx with h1 | h1
    · exact h.row x h1
    · rw [h1]; exact hr⟩
theorem w64_nat {k n : Nat} (hk : k < n) (hn : n ≤ 1048576) : IntKind.wrap .i64 ((k : Int) + 1) = ((k + 1 : Nat) : Int) := w64_succ hk (show n ≤ maxLen by show _ ≤ 9223372036854775807; omega)
def cntR (r : List Bool) : Nat := r.count true
def cntT (t : Tab) : Nat := (t.map cntR).sum
end Go.OM
set_option linter.unusedVariables false
set_option linter.unusedSimpArgs false
namespace Go.OM
theorem getI_in {α : Type} {l : List α} {v : Int} (h0 : 0 ≤ v) (h : v < l.length) : getI l v = some (l[v.toNat]'(by omega)) := by
  have : v = ((v.toNat : Nat) : Int) := by omega
  conv => lhs; rw [this]
  exact getI_at (by omega)
end Go.OM
set_option linter.unusedVariables false
set_option linter.unusedSimpArgs false
namespace Go.OM
structure Dn (W L : Nat) (s s' : Tab × Bool) : Prop where
  ok : TabOk W L s'.1
  le : cntT s'.1 ≤ cntT s.1
  lt : s'.2 = true → s.2 = true ∨ cntT s'.1 < cntT s.1
  keep : s.2 = true → s'.2 = true
theorem Dn.trans {W L : Nat} {s s' s2 : Tab × Bool} (h : Dn W L s s') (h2 : Dn W L s' s2) : Dn W L s s2 :=
  ⟨h2.ok, Nat.le_trans h2.le h.le, fun e => by
    rcases h2.lt e with e | e
    · rcases h.lt e with e | e
      · exact .inl e
      · exact .inr (Nat.lt_of_le_of_lt h2.le e)
    · exact .inr (Nat.lt_of_lt_of_le e h.le), fun e => h2.keep (h.keep e)⟩
end Go.OM
set_option linter.unusedVariables false
set_option linter.unusedSimpArgs false
namespace Go.OM
theorem hasInt_eq (l : List Int) (n : Int) (hl : l.length ≤ 1048576) : impl_hasInt l n = some (l.contains n) := by
  unfold impl_hasInt
  rw [loopP_any l (fun e => e == n) (impl_hasInt_l1 l n) (fun k hk => by
    simp only [impl_hasInt_l1, ofNat_lt_true hk, if_true, getI_at hk, Option.bind_some, w64_nat hk hl]
    cases l[k] == n <;> rfl) (by simp [impl_hasInt_l1])]
  have : (l.any fun e => e == n) = l.contains n := by
    induction l with
    | nil => rfl
    | cons x l ih =>
      rw [List.any_cons, List.contains_cons, ih (by simp at hl; omega)]
      congr 1
      rw [Bool.eq_iff_iff, beq_iff_eq, beq_iff_eq]
      exact eq_comm
  rw [this]
  cases l.contains n <;> rfl
theorem find_range {ρ : Type} (n : Nat) (q : Nat → Option ρ) (f : Int → Option (Int ⊕ (Unit ⊕ ρ)))
    (hf : ∀ (k : Nat), k < n → f k = some (match q k with | none => .inl ((k + 1 : Nat) : Int) | some r => .inr (.inr r)))
    (he : f n = some (.inr (.inl ()))) : loopP f 0 = some (match (List.range n).findSome? q with | some r => .inr r | none => .inl ()) :=
  loopP_find (List.range n) q f (fun k hk => by
    have hk' : k < n := by simpa using hk
    rw [hf k hk', List.getElem_range]
    all_goals (cases q k <;> rfl)) (by rw [List.length_range]; exact he)
end Go.OM
set_option linter.unusedVariables false
set_option linter.unusedSimpArgs false
namespace Go.OM
def valueB (k : Int) : Bool := inB k 1 12
def stepKB (k : Int) : Bool := inB k 13 19
theorem impl_isValue_eq (k : Int) : impl_isValue k = some (valueB k) := by simp only [impl_isValue, impl_in_eq, Option.bind_some, valueB]
theorem impl_isStep_eq (k : Int) : impl_isStep k = some (stepKB k) := by simp only [impl_isStep, impl_in_eq, Option.bind_some, stepKB]
theorem spec_l04Value_eq (k : Int) : spec_l04Value k = some (valueB k) := by simp only [spec_l04Value, spec_in_eq, Option.bind_some, valueB]
theorem spec_l04Statement_eq (k : Int) : spec_l04Statement k = some (stepKB k) := by simp only [spec_l04Statement, spec_in_eq, Option.bind_some, stepKB]
def shapeB (k : Int) : Int × Int := if k = 8 ∨ k = 13 ∨ k = 14 ∨ k = 15 ∨ k = 18 ∨ k = 19 then (1, 1) else if k = 9 ∨ k = 10 ∨ k = 11 ∨ k = 17 then (2, 2) else if k = 16 then (3, 3) else if k = 12 then (0, 3) else if k = 20 then (0, 12) else (0, 0)
theorem impl_shape_eq (k : Int) : impl_shape k = some (shapeB k) := by
  unfold impl_shape shapeB
  by_cases h8 : k = 8
  · simp [h8]
  by_cases h13 : k = 13
  · simp [h13]
  by_cases h14 : k = 14
  · simp [h14]
  by_cases h15 : k = 15
  · simp [h15]
  by_cases h18 : k = 18
  · simp [h18]
  by_cases h19 : k = 19
  · simp [h19]
  by_cases h9 : k = 9
  · simp [h9]
  by_cases h10 : k = 10
  · simp [h10]
  by_cases h11 : k = 11
  · simp [h11]
  by_cases h17 : k = 17
  · simp [h17]
  by_cases h16 : k = 16
  · simp [h16]
  by_cases h12 : k = 12
  · simp [h12]
  by_cases h20 : k = 20
  · simp [h20]
  simp [h8, h13, h14, h15, h18, h19, h9, h10, h11, h17, h16, h12, h20]
theorem spec_l04Kids_eq (k : Int) : spec_l04Kids k = some (shapeB k) := by
  unfold spec_l04Kids shapeB
  by_cases h8 : k = 8
  · simp [h8]
  by_cases h13 : k = 13
  · simp [h13]
  by_cases h14 : k = 14
  · simp [h14]
  by_cases h15 : k = 15
  · simp [h15]
  by_cases h18 : k = 18
  · simp [h18]
  by_cases h19 : k = 19
  · simp [h19]
  by_cases h9 : k = 9
  · simp [h9]
  by_cases h10 : k = 10
  · simp [h10]
  by_cases h11 : k = 11
  · simp [h11]
  by_cases h17 : k = 17
  · simp [h17]
  by_cases h16 : k = 16
  · simp [h16]
  by_cases h12 : k = 12
  · simp [h12]
  by_cases h20 : k = 20
  · simp [h20]
  simp [h8, h13, h14, h15, h18, h19, h9, h10, h11, h17, h16, h12, h20]
def fitsB (kind i kid : Int) : Bool := if kind = 20 then stepKB kid else if (kind = 16 ∨ kind = 17) ∧ 0 < i then kid == 20 else if kind = 19 then kid == 12 else valueB kid
theorem impl_kidFits_eq (kind i kid : Int) : impl_kidFits kind i kid = some (fitsB kind i kid) := by
  unfold impl_kidFits fitsB
  simp only [impl_isStep_eq, impl_isValue_eq, Option.bind_some, gt_iff_lt]
  by_cases h20 : kind = 20
  · simp [h20]
  by_cases h16 : kind = 16
  · by_cases hi : 0 < i <;> simp [h16, hi]
  by_cases h17 : kind = 17
  · by_cases hi : 0 < i <;> simp [h17, hi]
  by_cases h19 : kind = 19
  · simp [h19]
  simp [h20, h16, h17, h19]
theorem spec_l04Fits_eq (kind i kid : Int) : spec_l04Fits kind i kid = some (fitsB kind i kid) := by
  unfold spec_l04Fits fitsB
  simp only [spec_l04Statement_eq, spec_l04Value_eq, Option.bind_some, gt_iff_lt]
  by_cases h20 : kind = 20
  · simp [h20]
  by_cases h16 : kind = 16
  · by_cases hi : 0 < i <;> simp [h16, hi]
  by_cases h17 : kind = 17
  · by_cases hi : 0 < i <;> simp [h17, hi]
  by_cases h19 : kind = 19
  · simp [h19]
  simp [h20, h16, h17, h19]
def namedB (k : Int) : Bool := inB k 2 6 || inB k 12 15
theorem impl_hasName_eq (k : Int) : impl_hasName k = some (namedB k) := by
  unfold impl_hasName namedB
  simp only [impl_in_eq, Option.bind_some]
  cases inB k 2 6 <;> rfl
theorem spec_l04Named_eq (k : Int) : spec_l04Named k = some (namedB k) := by
  unfold spec_l04Named namedB
  by_cases h : inB k 2 6 = true
  · have h' := inB_iff.1 h
    rw [h]
    have : k = 2 ∨ k = 3 ∨ k = 4 ∨ k = 5 ∨ k = 6 := by omega
    rcases this with e | e | e | e | e <;> simp [e]
  · by_cases h2 : inB k 12 15 = true
    · have h' := inB_iff.1 h2
      rw [h2]
      have : k = 12 ∨ k = 13 ∨ k = 14 ∨ k = 15 := by omega
      rcases this with e | e | e | e <;> simp [e]
    · have h' := inB_false.1 (Bool.eq_false_iff.2 h)
      have h2' := inB_false.1 (Bool.eq_false_iff.2 h2)
      have n2 : ¬ k = 2 := by omega
      have n3 : ¬ k = 3 := by omega
      have n4 : ¬ k = 4 := by omega
      have n5 : ¬ k = 5 := by omega
      have n6 : ¬ k = 6 := by omega
      have n12 : ¬ k = 12 := by omega
      have n13 : ¬ k = 13 := by omega
      have n14 : ¬ k = 14 := by omega
      have n15 : ¬ k = 15 := by omega
      simp [Bool.eq_false_iff.2 h, Bool.eq_false_iff.2 h2, n2, n3, n4, n5, n6, n12, n13, n14, n15]
def kidB (nodes : List GNode) (k : Nat) (x : GNode) (i : Nat) : Bool := match x.Kids[i]? with
  | none => false
  | some kid => inB kid 0 ((k : Int) - 1) && (!((x.Kids.take i).contains kid) && (match nodes[kid.toNat]? with | some y => fitsB x.Kind i y.Kind | none => false))
theorem kidB_at {nodes : List GNode} {k : Nat} {x : GNode} {i : Nat} (h : i < x.Kids.length) : kidB nodes k x i = (inB x.Kids[i] 0 ((k : Int) - 1) && (!((x.Kids.take i).contains x.Kids[i]) && (match nodes[(x.Kids[i]).toNat]? with | some y => fitsB x.Kind i y.Kind | none => false))) := by
  unfold kidB; rw [List.getElem?_eq_getElem h]
def kidsB (nodes : List GNode) (k : Nat) (x : GNode) : Bool := (List.range x.Kids.length).all (kidB nodes k x)
def numNB (x : GNode) : Bool := if x.Kind = 1 then inB x.Num 0 1000000000 else x.Num == 0
def nameNB (x : GNode) : Bool := if namedB x.Kind = true then nameB x.Name else sEq x.Name ⟨#[]⟩
def nodeB (nodes : List GNode) (k : Nat) : Bool := match nodes[k]? with
  | none => false
  | some x => inB x.Kind 1 20 && (inB x.Kids.length (shapeB x.Kind).1 (shapeB x.Kind).2 && (kidsB nodes k x && (numNB x && nameNB x)))
theorem range_all {ρ : Type} (n : Nat) (hn : n ≤ 1048576) (p : Nat → Bool) (b : ρ) (f : Int → Option (Int ⊕ (Unit ⊕ ρ)))
    (hf : ∀ (k : Nat), k < n → f k = some (if p k = true then .inl (IntKind.wrap .i64 ((k : Int) + 1)) else .inr (.inr b)))
    (he : f n = some (.inr (.inl ()))) : loopP f 0 = some (if (List.range n).all p = true then .inl () else .inr b) := by
  rw [find_range n (fun k => if p k = true then none else some b) f (fun k hk => by
    rw [hf k hk, w64_nat hk hn]
    cases p k <;> rfl) he]
  have key : ∀ l : List Nat, l.findSome? (fun k => if p k = true then none else some b) = if l.all p = true then none else some b := by
    intro l
    induction l with
    | nil => rfl
    | cons x l ih =>
      rw [List.findSome?_cons, List.all_cons]
      cases hp : p x
      · simp
      · simp only [if_true, Bool.true_and]; exact ih
  rw [key]
  cases (List.range n).all p <;> rfl
theorem shape_hi (k : Int) : (shapeB k).2 ≤ 12 := by
  unfold shapeB
  repeat' split
  all_goals simp
theorem nameB_empty : nameB ⟨#[]⟩ = false := by
  unfold nameB
  have : inB ((⟨#[]⟩ : ByteArray).size : Int) 1 8 = false := rfl
  rw [this]; rfl
theorem impl_NodeOk_eq (nodes : List GNode) (hn : nodes.length ≤ 1048576) (k : Int) : impl_NodeOk nodes k = some (decide (0 ≤ k) && nodeB nodes k.toNat) := by
  unfold impl_NodeOk
  simp only [impl_in_eq, Option.bind_some, w64_pred hn]
  by_cases hi : inB k 0 ((nodes.length : Int) - 1) = true
  · have hi' := inB_iff.1 hi
    have hk : k.toNat < nodes.length := by omega
    have hkk : k = ((k.toNat : Nat) : Int) := by omega
    rw [decide_eq_true hi'.1, Bool.true_and]
    generalize k.toNat = m at *
    subst hkk
    unfold nodeB
    rw [List.getElem?_eq_getElem hk, getI_at hk]
    simp only [hi, Bool.not_true, Bool.false_eq_true, if_false, Option.bind_some, impl_shape_eq]
    generalize nodes[m] = x
    cases h1 : inB x.Kind 1 20
    · rfl
    cases h2 : inB x.Kids.length (shapeB x.Kind).1 (shapeB x.Kind).2
    · rfl
    have h2' := inB_iff.1 h2
    have hs := shape_hi x.Kind
    have hkl : x.Kids.length ≤ 1048576 := by omega
    have hw : IntKind.wrap .i64 ((m : Int) - 1) = (m : Int) - 1 := w64 (by omega) (by omega)
    rw [range_all x.Kids.length hkl (kidB nodes m x) false (impl_NodeOk_l1 nodes m x) (fun i hi => by
      have hsub : subI x.Kids 0 (i : Int) = some (x.Kids.take i) := by
        unfold subI; rw [if_pos ⟨by omega, by omega, by omega⟩]; simp
      simp only [impl_NodeOk_l1, ofNat_lt_true hi, if_true, getI_at hi, Option.bind_some, impl_in_eq, hw, hsub, hasInt_eq (x.Kids.take i) _ (by simp; omega), impl_kidFits_eq]
      rw [kidB_at hi]
      cases h3 : inB x.Kids[i] 0 ((m : Int) - 1)
      · rfl
      have h3' := inB_iff.1 h3
      cases h4 : (x.Kids.take i).contains x.Kids[i]
      · have hlt : x.Kids[i].toNat < nodes.length := by omega
        rw [getI_in h3'.1 (by omega), List.getElem?_eq_getElem hlt]
        simp only [Bool.not_true, Bool.false_eq_true, if_false, Option.bind_some, Bool.not_false, Bool.true_and]
        cases fitsB x.Kind i nodes[x.Kids[i].toNat].Kind <;> rfl
      · rfl) (by simp [impl_NodeOk_l1])]
    have hkk : (List.range x.Kids.length).all (kidB nodes m x) = kidsB nodes m x := rfl
    rw [hkk]
    cases kidsB nodes m x
    · rfl
    unfold numNB nameNB
    simp only [impl_hasName_eq, impl_NameOk_eq, Option.bind_some, Bool.not_true, Bool.false_eq_true, if_false, if_true]
    by_cases hkd : x.Kind = 1
    · have e : (x.Kind == 1) = true := by simpa using hkd
      rw [if_pos hkd, if_pos e]
      cases inB x.Num 0 1000000000
      · rfl
      cases namedB x.Kind <;> rfl
    · have e : ¬ (x.Kind == 1) = true := by simpa using hkd
      have e2 : (x.Num != 0) = !(x.Num == 0) := rfl
      rw [if_neg hkd, if_neg e, e2]
      cases x.Num == 0
      · rfl
      cases namedB x.Kind <;> rfl
  · simp only [Bool.eq_false_iff.2 hi, Bool.not_false, if_true]
    have hi' := inB_false.1 (Bool.eq_false_iff.2 hi)
    congr 1
    by_cases h0 : 0 ≤ k
    · unfold nodeB
      rw [List.getElem?_eq_none (by omega)]; simp
    · simp [h0]
theorem spec_NodeOk_eq (nodes : List GNode) (hn : nodes.length ≤ 1048576) (k : Int) : spec_NodeOk nodes k = some (decide (0 ≤ k) && nodeB nodes k.toNat) := by
  unfold spec_NodeOk
  simp only [spec_in_eq, Option.bind_some, w64_pred hn]
  by_cases hi : inB k 0 ((nodes.length : Int) - 1) = true
  · have hi' := inB_iff.1 hi
    have hk : k.toNat < nodes.length := by omega
    have hkk : k = ((k.toNat : Nat) : Int) := by omega
    rw [decide_eq_true hi'.1, Bool.true_and]
    generalize k.toNat = m at *
    subst hkk
    unfold nodeB
    rw [List.getElem?_eq_getElem hk, getI_at hk]
    simp only [hi, Bool.not_true, Bool.false_eq_true, if_false, Option.bind_some, spec_l04Kids_eq]
    generalize nodes[m] = x
    cases h1 : inB x.Kind 1 20
    · rfl
    simp only [Bool.not_true, Bool.false_eq_true, if_false, Bool.true_and]
    cases h2 : inB x.Kids.length (shapeB x.Kind).1 (shapeB x.Kind).2
    · rfl
    have h2' := inB_iff.1 h2
    have hs := shape_hi x.Kind
    have hkl : x.Kids.length ≤ 1048576 := by omega
    have hw : IntKind.wrap .i64 ((m : Int) - 1) = (m : Int) - 1 := w64 (by omega) (by omega)
    rw [range_all x.Kids.length hkl (kidB nodes m x) false (spec_NodeOk_l1 nodes m x) (fun i hi => by
      simp only [spec_NodeOk_l1, ofNat_lt_true hi, if_true, getI_at hi, Option.bind_some, spec_in_eq, hw, spec_l04Fits_eq]
      rw [range_all i (by omega) (fun j => !(x.Kids[i] == (x.Kids[j]?).getD 0)) (.inr (.inr false)) (spec_NodeOk_l2 x i) (fun j hj => by
        have hjl : j < x.Kids.length := by omega
        simp only [spec_NodeOk_l2, ofNat_lt_true hj, if_true, getI_at hi, getI_at hjl, Option.bind_some, List.getElem?_eq_getElem hjl, Option.getD_some]
        cases x.Kids[i] == x.Kids[j] <;> rfl) (by simp [spec_NodeOk_l2])]
      have hall : (List.range i).all (fun j => !(x.Kids[i] == (x.Kids[j]?).getD 0)) = !((x.Kids.take i).contains x.Kids[i]) := by
        rw [Bool.eq_iff_iff]
        simp only [List.all_eq_true, List.mem_range, Bool.not_eq_true', List.contains_eq_mem, decide_eq_false_iff_not, beq_eq_false_iff_ne, ne_eq]
        constructor
        · intro h hm
          obtain ⟨j, hj, e⟩ := List.mem_iff_getElem.1 hm
          simp only [List.length_take] at hj
          rw [List.getElem_take] at e
          refine h j (by omega) ?_
          rw [List.getElem?_eq_getElem (by omega)]
          exact e.symm
        · intro h j hj e
          rw [List.getElem?_eq_getElem (show j < x.Kids.length by omega)] at e
          refine h ?_
          rw [e]
          refine List.mem_iff_getElem.2 ⟨j, by simp only [List.length_take]; omega, ?_⟩
          rw [List.getElem_take]; rfl
      rw [hall]
      rw [kidB_at hi]
      cases h3 : inB x.Kids[i] 0 ((m : Int) - 1)
      · rfl
      have h3' := inB_iff.1 h3
      have hlt : x.Kids[i].toNat < nodes.length := by omega
      rw [getI_in h3'.1 (by omega), List.getElem?_eq_getElem hlt]
      simp only [Bool.not_true, Bool.false_eq_true, if_false, Option.bind_some, Bool.true_and]
      cases fitsB x.Kind i nodes[x.Kids[i].toNat].Kind <;> cases (x.Kids.take i).contains x.Kids[i] <;> rfl) (by simp [spec_NodeOk_l1])]
    have hkk : (List.range x.Kids.length).all (kidB nodes m x) = kidsB nodes m x := rfl
    rw [hkk]
    unfold numNB nameNB
    simp only [spec_l04Named_eq, spec_NameOk_eq, Option.bind_some, Bool.not_true, Bool.false_eq_true, if_false, if_true]
    have hname : (if (!(namedB x.Kind == (!(sEq x.Name (⟨#[]⟩ : ByteArray))))) = true then some true else if (!(sEq x.Name (⟨#[]⟩ : ByteArray))) = true then some (!(nameB x.Name)) else some false) = some (!(if namedB x.Kind = true then nameB x.Name else sEq x.Name ⟨#[]⟩)) := by
      cases he : sEq x.Name ⟨#[]⟩ with
      | true =>
        have : x.Name = ⟨#[]⟩ := by rw [sEq_iff] at he; simpa using he
        cases namedB x.Kind
        · rfl
        · rw [this, nameB_empty]; rfl
      | false =>
        cases namedB x.Kind <;> rfl
    rw [hname]
    have hnum : (if (!(inB x.Num 0 1000000000)) = true then some true else if (x.Kind != 1) = true then some (x.Num != 0) else some false) = some (!(if x.Kind = 1 then inB x.Num 0 1000000000 else x.Num == 0)) := by
      have e2 : (x.Num != 0) = !(x.Num == 0) := rfl
      by_cases hkd : x.Kind = 1
      · have e : (x.Kind != 1) = false := by simp [hkd]
        rw [if_pos hkd, e]
        cases inB x.Num 0 1000000000 <;> rfl
      · have e : (x.Kind != 1) = true := by simpa using hkd
        rw [if_neg hkd, e, e2]
        cases hz : x.Num == 0 with
        | true =>
          have : x.Num = 0 := by simpa using hz
          rw [this]; rfl
        | false => cases inB x.Num 0 1000000000 <;> rfl
    rw [hnum]
    generalize (if x.Kind = 1 then inB x.Num 0 1000000000 else x.Num == 0) = u
    generalize (if namedB x.Kind = true then nameB x.Name else sEq x.Name ⟨#[]⟩) = v
    cases u <;> cases v <;> cases kidsB nodes m x <;> rfl
  · simp only [Bool.eq_false_iff.2 hi, Bool.not_false, if_true, Option.bind_some]
    have hi' := inB_false.1 (Bool.eq_false_iff.2 hi)
    congr 1
    by_cases h0 : 0 ≤ k
    · unfold nodeB
      rw [List.getElem?_eq_none (by omega)]; simp
    · simp [h0]
end Go.OM
set_option linter.unusedVariables false
set_option linter.unusedSimpArgs false
namespace Go.OM
def mx (a b : Int) : Int := if b > a then b else a
def dstep (nodes : List GNode) (out : List Int) (i : Nat) : Int := match nodes[i]? with
  | some x => x.Kids.foldl (fun d kid => mx d (out.getD kid.toNat 0 + 1)) 1
  | none => 1
def deeps (nodes : List GNode) : Nat → List Int
  | 0 => []
  | n + 1 => deeps nodes n ++ [dstep nodes (deeps nodes n) n]
def okU (nodes : List GNode) : Nat → Bool
  | 0 => true
  | n + 1 => okU nodes n && (nodeB nodes n && decide (dstep nodes (deeps nodes n) n ≤ 10))
def dval (nodes : List GNode) (k : Nat) : Int := dstep nodes (deeps nodes k) k
theorem deeps_len (nodes : List GNode) : ∀ n, (deeps nodes n).length = n
  | 0 => rfl
  | n + 1 => by simp [deeps, deeps_len nodes n]
theorem deeps_get (nodes : List GNode) : ∀ (n j : Nat), j < n → (deeps nodes n)[j]? = some (dval nodes j)
  | 0, j, h => by omega
  | n + 1, j, h => by
    simp only [deeps]
    rcases Nat.lt_or_ge j n with h1 | h1
    · rw [List.getElem?_append_left (by rw [deeps_len]; exact h1)]
      exact deeps_get nodes n j h1
    · have : j = n := by omega
      subst this
      rw [List.getElem?_append_right (by rw [deeps_len]; omega), deeps_len]
      simp [dval]
theorem okU_mono {nodes : List GNode} : ∀ {n m : Nat}, m ≤ n → okU nodes n = true → okU nodes m = true
  | 0, m, h, h1 => by have : m = 0 := by omega
                      subst this; rfl
  | n + 1, m, h, h1 => by
    by_cases e : m = n + 1
    · subst e; exact h1
    · simp only [okU, Bool.and_eq_true] at h1
      exact okU_mono (by omega) h1.1
theorem okU_at {nodes : List GNode} {n j : Nat} (h : okU nodes n = true) (hj : j < n) : nodeB nodes j = true ∧ dval nodes j ≤ 10 := by
  have := okU_mono (show j + 1 ≤ n by omega) h
  simp only [okU, Bool.and_eq_true, decide_eq_true_eq] at this
  exact this.2
theorem mx_ge (l : List Int) (g : Int → Int) : ∀ d, d ≤ l.foldl (fun d kid => mx d (g kid)) d ∧ ∀ kid ∈ l, g kid ≤ l.foldl (fun d kid => mx d (g kid)) d := by
  induction l with
  | nil => intro d; simp
  | cons x l ih =>
    intro d
    rw [List.foldl_cons]
    obtain ⟨h1, h2⟩ := ih (mx d (g x))
    have h3 : d ≤ mx d (g x) ∧ g x ≤ mx d (g x) := by unfold mx; split <;> omega
    refine ⟨by omega, fun kid hk => ?_⟩
    rcases List.mem_cons.1 hk with rfl | hk
    · omega
    · exact h2 kid hk
theorem dval_pos (nodes : List GNode) (k : Nat) : 1 ≤ dval nodes k := by
  unfold dval dstep
  split
  · exact (mx_ge _ _ 1).1
  · omega
theorem nodeB_get {nodes : List GNode} {k : Nat} (h : nodeB nodes k = true) : ∃ (hk : k < nodes.length), inB nodes[k].Kind 1 20 = true ∧ inB nodes[k].Kids.length (shapeB nodes[k].Kind).1 (shapeB nodes[k].Kind).2 = true ∧ (∀ (i : Nat) (hi : i < nodes[k].Kids.length), (0 ≤ nodes[k].Kids[i] ∧ nodes[k].Kids[i] < k) ∧ ¬ nodes[k].Kids[i] ∈ nodes[k].Kids.take i ∧ ∃ y, nodes[(nodes[k].Kids[i]).toNat]? = some y ∧ fitsB nodes[k].Kind i y.Kind = true) ∧ numNB nodes[k] = true ∧ nameNB nodes[k] = true := by
  unfold nodeB at h
  split at h
  · cases h
  · rename_i x hx
    obtain ⟨hk, hxe⟩ := List.getElem?_eq_some_iff.1 hx
    subst hxe
    simp only [Bool.and_eq_true] at h
    obtain ⟨h1, h2, h3, h4, h5⟩ := h
    refine ⟨hk, h1, h2, fun i hi => ?_, h4, h5⟩
    have := List.all_eq_true.1 h3 i (List.mem_range.2 hi)
    rw [kidB_at hi] at this
    simp only [Bool.and_eq_true, inB_iff, Bool.not_eq_true', List.contains_eq_mem, decide_eq_false_iff_not] at this
    obtain ⟨g1, g2, g3⟩ := this
    refine ⟨⟨g1.1, by omega⟩, g2, ?_⟩
    split at g3
    · rename_i y hy; exact ⟨y, hy, g3⟩
    · cases g3
theorem nodeB_kids {nodes : List GNode} {k : Nat} (h : nodeB nodes k = true) {x : GNode} (hx : nodes[k]? = some x) : ∀ kid ∈ x.Kids, 0 ≤ kid ∧ kid < k := by
  obtain ⟨hk, _, _, h3, _⟩ := nodeB_get h
  obtain ⟨_, hxe⟩ := List.getElem?_eq_some_iff.1 hx
  subst hxe
  intro kid hm
  obtain ⟨i, hi, rfl⟩ := List.mem_iff_getElem.1 hm
  exact (h3 i hi).1
theorem nodeB_kidlen {nodes : List GNode} {k : Nat} (h : nodeB nodes k = true) {x : GNode} (hx : nodes[k]? = some x) : x.Kids.length ≤ 12 := by
  obtain ⟨hk, _, h2, _⟩ := nodeB_get h
  obtain ⟨_, hxe⟩ := List.getElem?_eq_some_iff.1 hx
  subst hxe
  have := inB_iff.1 h2
  have := shape_hi nodes[k].Kind
  omega
theorem impl_dloop (nodes : List GNode) (k : Nat) (x : GNode) (hx : nodes[k]? = some x) (hok : okU nodes k = true) (hn : nodeB nodes k = true) : loopP (impl_depths_l2 (deeps nodes k) x) (1, 0) = some (dval nodes k) := by
  have hkl := nodeB_kidlen hn hx
  have hkb := nodeB_kids hn hx
  have hg : ∀ kid ∈ x.Kids, (deeps nodes k).getD kid.toNat 0 = dval nodes kid.toNat := fun kid hm => by
    have := hkb kid hm
    rw [List.getD_eq_getElem?_getD, deeps_get nodes k kid.toNat (by omega)]; rfl
  have := loopP_fold x.Kids (fun (d : Int) j => (d, (j : Int))) (fun j d => True) (fun d kid => .inl (mx d ((deeps nodes k).getD kid.toNat 0 + 1))) id (impl_depths_l2 (deeps nodes k) x) (fun d j hj _ => by
    left
    have hm := List.getElem_mem hj
    have hb := hkb _ hm
    have hd := okU_at hok (show x.Kids[j].toNat < k by omega)
    have hp := dval_pos nodes x.Kids[j].toNat
    refine ⟨_, rfl, ?_, trivial⟩
    have hlt : x.Kids[j].toNat < (deeps nodes k).length := by rw [deeps_len]; omega
    have hge : (deeps nodes k)[x.Kids[j].toNat] = dval nodes x.Kids[j].toNat := by
      have := deeps_get nodes k x.Kids[j].toNat (by omega)
      rw [List.getElem?_eq_getElem hlt] at this
      exact Option.some.inj this
    simp only [impl_depths_l2, ofNat_lt_true hj, if_true, getI_at hj, Option.bind_some]
    rw [getI_in hb.1 (by rw [deeps_len]; omega), hge]
    simp only [Option.bind_some, w64 (n := dval nodes x.Kids[j].toNat + 1) (by omega) (by omega), w64_nat hj (by omega), hg _ hm]
    rfl) (fun d _ => by simp [impl_depths_l2]) 1 trivial
  rw [foldE_inl] at this
  unfold dval dstep
  rw [hx]
  exact this
theorem impl_depths_eq (nodes : List GNode) (hn : nodes.length ≤ 1048576) (k : Int) : impl_depths nodes k = some (if 0 ≤ k ∧ k < nodes.length ∧ okU nodes (k.toNat + 1) = true then (deeps nodes (k.toNat + 1), true) else ([], false)) := by
  unfold impl_depths
  simp only [impl_in_eq, Option.bind_some, w64_pred hn]
  by_cases hi : inB k 0 ((nodes.length : Int) - 1) = true
  · have hi' := inB_iff.1 hi
    have hkk : k = ((k.toNat : Nat) : Int) := by omega
    have hk : k.toNat < nodes.length := by omega
    generalize k.toNat = m at *
    subst hkk
    simp only [hi, Bool.not_true, Bool.false_eq_true, if_false]
    obtain ⟨r, h1, h2⟩ := loopP_run (f := impl_depths_l1 nodes m) (fun s : List Int × Int => ∃ i : Nat, s.2 = i ∧ i ≤ m + 1 ∧ s.1 = deeps nodes i ∧ okU nodes i = true) (fun s => m + 1 - s.2.toNat) (fun r => r = if okU nodes (m + 1) = true then Sum.inl (deeps nodes (m + 1)) else Sum.inr ([], false)) (by
      rintro ⟨out, i⟩ ⟨i, rfl, hle, ho, hok⟩
      simp only at ho hle
      subst ho
      by_cases hlt : i ≤ m
      · have hd : decide ((i : Int) ≤ (m : Int)) = true := by simp only [decide_eq_true_eq]; omega
        have hil : i < nodes.length := by omega
        simp only [impl_depths_l1, hd, if_true, impl_NodeOk_eq nodes hn, Option.bind_some, Int.toNat_natCast]
        have h0 : decide ((0 : Int) ≤ (i : Int)) = true := by simp
        rw [h0, Bool.true_and]
        cases hnb : nodeB nodes i with
        | false =>
          right
          refine ⟨.inr ([], false), by simp, ?_⟩
          have : okU nodes (m + 1) = false := by
            rw [Bool.eq_false_iff]
            intro h
            rw [(okU_at h (show i < m + 1 by omega)).1] at hnb
            cases hnb
          rw [this]; rfl
        | true =>
          simp only [Bool.not_true, Bool.false_eq_true, if_false, getI_at hil, Option.bind_some]
          rw [impl_dloop nodes i _ (List.getElem?_eq_getElem hil) hok hnb]
          simp only [Option.bind_some]
          by_cases hd10 : dval nodes i > 10
          · right
            rw [if_pos (by simpa using hd10)]
            refine ⟨.inr ([], false), rfl, ?_⟩
            have : okU nodes (m + 1) = false := by
              rw [Bool.eq_false_iff]
              intro h
              have := (okU_at h (show i < m + 1 by omega)).2
              omega
            rw [this]; rfl
          · left
            rw [if_neg (by simpa using hd10), app1 (by rw [deeps_len]; omega) (by omega)]
            refine ⟨(deeps nodes (i + 1), ((i + 1 : Nat) : Int)), ?_, ⟨i + 1, rfl, by omega, rfl, ?_⟩, by simp only [Int.toNat_natCast]; omega⟩
            · simp only [Option.bind_some, w64_nat hil hn]
              rfl
            · simp only [okU, hok, hnb, Bool.true_and, decide_eq_true_eq]
              show dval nodes i ≤ 10
              omega
      · right
        have : i = m + 1 := by omega
        subst this
        have hd : decide (((m + 1 : Nat) : Int) ≤ (m : Int)) = false := by simp only [decide_eq_false_iff_not]; omega
        refine ⟨.inl (deeps nodes (m + 1)), by simp only [impl_depths_l1, hd, Bool.false_eq_true, if_false], ?_⟩
        rw [hok]; rfl) ([], 0) ⟨0, rfl, by omega, rfl, rfl⟩
    rw [h1, h2]
    by_cases hok : okU nodes (m + 1) = true
    · rw [if_pos hok, if_pos (show 0 ≤ (m : Int) ∧ (m : Int) < nodes.length ∧ okU nodes (m + 1) = true from ⟨by omega, by omega, hok⟩)]; rfl
    · rw [if_neg hok, if_neg (show ¬ (0 ≤ (m : Int) ∧ (m : Int) < nodes.length ∧ okU nodes (m + 1) = true) from fun h => hok h.2.2)]; rfl
  · have hi' := inB_false.1 (Bool.eq_false_iff.2 hi)
    simp only [Bool.eq_false_iff.2 hi, Bool.not_false, if_true]
    rw [if_neg (show ¬ (0 ≤ k ∧ k < nodes.length ∧ okU nodes (k.toNat + 1) = true) from fun h => hi' ⟨h.1, by omega⟩)]
def deepB (nodes : List GNode) (k : Int) : Int := if 0 ≤ k ∧ k < nodes.length ∧ okU nodes (k.toNat + 1) = true then dval nodes k.toNat else 0
theorem impl_DeepOf_eq (nodes : List GNode) (hn : nodes.length ≤ 1048576) (k : Int) : impl_DeepOf nodes k = some (deepB nodes k) := by
  unfold impl_DeepOf deepB
  rw [impl_depths_eq nodes hn]
  by_cases h : 0 ≤ k ∧ k < nodes.length ∧ okU nodes (k.toNat + 1) = true
  · rw [if_pos h, if_pos h]
    have hlt : k.toNat < (deeps nodes (k.toNat + 1)).length := by rw [deeps_len]; omega
    simp only [Option.bind_some, Bool.not_true, Bool.false_eq_true, if_false]
    rw [getI_in h.1 (by rw [deeps_len]; omega)]
    have := deeps_get nodes (k.toNat + 1) k.toNat (by omega)
    rw [List.getElem?_eq_getElem hlt] at this
    simp only [Option.bind_some]
    exact this
  · rw [if_neg h, if_neg h]; rfl
def sdeeps (nodes : List GNode) (n : Nat) : List Int := (List.range n).map fun j => if okU nodes (j + 1) = true then dval nodes j else 0
theorem sdeeps_len (nodes : List GNode) (n : Nat) : (sdeeps nodes n).length = n := by simp [sdeeps]
theorem sdeeps_get (nodes : List GNode) {n j : Nat} (h : j < n) : (sdeeps nodes n)[j]? = some (if okU nodes (j + 1) = true then dval nodes j else 0) := by
  unfold sdeeps
  rw [List.getElem?_map, List.getElem?_range h]; rfl
theorem sdeeps_ok {nodes : List GNode} {n : Nat} (h : okU nodes n = true) : sdeeps nodes n = deeps nodes n := by
  apply List.ext_getElem?
  intro j
  by_cases hj : j < n
  · rw [sdeeps_get nodes hj, deeps_get nodes n j hj, if_pos (okU_mono (by omega) h)]
  · rw [List.getElem?_eq_none (by rw [sdeeps_len]; omega), List.getElem?_eq_none (by rw [deeps_len]; omega)]
theorem spec_dloop (nodes : List GNode) (k : Nat) (hk : k < nodes.length) (hok : okU nodes k = true) (hn : nodeB nodes k = true) : loopP (spec_l04Deeps_l2 nodes (deeps nodes k) k) (1, 0) = some (dval nodes k) := by
  have hx : nodes[k]? = some nodes[k] := List.getElem?_eq_getElem hk
  generalize hgx : nodes[k] = x at *
  have hkl := nodeB_kidlen hn hx
  have hkb := nodeB_kids hn hx
  have hg : ∀ kid ∈ x.Kids, (deeps nodes k).getD kid.toNat 0 = dval nodes kid.toNat := fun kid hm => by
    have := hkb kid hm
    rw [List.getD_eq_getElem?_getD, deeps_get nodes k kid.toNat (by omega)]; rfl
  have hgk : getI nodes (k : Int) = some x := by rw [getI_at hk, hgx]
  have := loopP_fold x.Kids (fun (d : Int) j => (d, (j : Int))) (fun j d => 0 < d) (fun d kid => .inl (mx d ((deeps nodes k).getD kid.toNat 0 + 1))) id (spec_l04Deeps_l2 nodes (deeps nodes k) k) (fun d j hj hpos => by
    left
    have hm := List.getElem_mem hj
    have hb := hkb _ hm
    have hd := okU_at hok (show x.Kids[j].toNat < k by omega)
    have hp := dval_pos nodes x.Kids[j].toNat
    refine ⟨_, rfl, ?_, by unfold mx; split <;> omega⟩
    have hlt : x.Kids[j].toNat < (deeps nodes k).length := by rw [deeps_len]; omega
    have hge : (deeps nodes k)[x.Kids[j].toNat] = dval nodes x.Kids[j].toNat := by
      have := deeps_get nodes k x.Kids[j].toNat (by omega)
      rw [List.getElem?_eq_getElem hlt] at this
      exact Option.some.inj this
    have hp0 : decide (d > 0) = true := by simpa using hpos
    have hgi : getI (deeps nodes k) x.Kids[j] = some (dval nodes x.Kids[j].toNat) := by rw [getI_in hb.1 (by rw [deeps_len]; omega), hge]
    simp only [spec_l04Deeps_l2, hp0, if_true, hgk, Option.bind_some, ofNat_lt_true hj, getI_at hj, hgi, w64 (n := dval nodes x.Kids[j].toNat + 1) (by omega) (by omega), w64_nat hj (by omega), hg _ hm]
    unfold mx
    by_cases hgt : dval nodes x.Kids[j].toNat + 1 > d
    · rw [if_pos (by simpa using hgt), if_pos hgt]
    · rw [if_neg (by simpa using hgt), if_neg hgt]) (fun d hd => by
    have hp0 : decide (d > 0) = true := by simpa using hd
    simp [spec_l04Deeps_l2, hp0, hgk]) 1 (by omega)
  rw [foldE_inl] at this
  unfold dval dstep
  rw [hx]
  exact this
theorem spec_Deeps_eq (nodes : List GNode) (hn : nodes.length ≤ 1048576) (k : Nat) (hk : k < nodes.length) : spec_l04Deeps nodes k = some (sdeeps nodes (k + 1)) := by
  unfold spec_l04Deeps
  obtain ⟨r, h1, h2⟩ := loopP_run (f := spec_l04Deeps_l1 nodes k) (fun s : List Int × Int => ∃ i : Nat, s.2 = i ∧ i ≤ k + 1 ∧ s.1 = sdeeps nodes i) (fun s => k + 1 - s.2.toNat) (fun r => r = sdeeps nodes (k + 1)) (by
    rintro ⟨out, i⟩ ⟨i, rfl, hle, ho⟩
    simp only at ho hle
    subst ho
    by_cases hlt : i ≤ k
    · left
      have hd : decide ((i : Int) ≤ (k : Int)) = true := by simp only [decide_eq_true_eq]; omega
      have hil : i < nodes.length := by omega
      have hd2 : decide ((i : Int) < (nodes.length : Int)) = true := by simp only [decide_eq_true_eq]; omega
      have h0 : decide ((0 : Int) ≤ (i : Int)) = true := by simp
      refine ⟨(sdeeps nodes (i + 1), ((i + 1 : Nat) : Int)), ?_, ⟨i + 1, rfl, by omega, rfl⟩, by simp only [Int.toNat_natCast]; omega⟩
      simp only [spec_l04Deeps_l1, hd, hd2, if_true, spec_NodeOk_eq nodes hn, Option.bind_some, Int.toNat_natCast, h0, Bool.true_and]
      -- is it right so far?
      have hflag : (if (!(nodeB nodes i)) = true then some true else if (decide ((i : Int) > 0)) = true then (getI (sdeeps nodes i) (IntKind.wrap .i64 ((i : Int) - 1))).bind fun e32 => some (e32 == 0) else some false) = some (!(nodeB nodes i && okU nodes i)) := by
        cases hnb : nodeB nodes i with
        | false => rfl
        | true =>
          simp only [Bool.not_true, Bool.false_eq_true, if_false, Bool.true_and]
          by_cases hz : i = 0
          · subst hz; rfl
          · have hp : decide ((i : Int) > 0) = true := by simp only [decide_eq_true_eq]; omega
            have hw : IntKind.wrap .i64 ((i : Int) - 1) = ((i - 1 : Nat) : Int) := by rw [w64 (by omega) (by omega)]; omega
            rw [if_pos hp, hw, getI_nat, sdeeps_get nodes (show i - 1 < i by omega), show i - 1 + 1 = i by omega]
            simp only [Option.bind_some]
            cases hok : okU nodes i with
            | true =>
              have := dval_pos nodes (i - 1)
              have hne : ¬ dval nodes (i - 1) = 0 := by omega
              simp [hne]
            | false => simp
      rw [hflag]
      simp only [Option.bind_some]
      have hfin : (Option.bind (if (!(nodeB nodes i && okU nodes i)) = true then some 0 else some (1 : Int)) fun deep36 => Option.bind (loopP (spec_l04Deeps_l2 nodes (sdeeps nodes i) i) (deep36, 0)) fun deep62 => Option.bind (if (decide (deep62 > 10)) = true then some 0 else some deep62) fun deep68 => (appI 8 (sdeeps nodes i) [deep68]).bind fun l69 => some l69) = some (sdeeps nodes (i + 1)) := by
        have hsucc : sdeeps nodes (i + 1) = sdeeps nodes i ++ [if okU nodes (i + 1) = true then dval nodes i else 0] := by
          unfold sdeeps; rw [List.range_succ, List.map_append]; rfl
        have happ : ∀ z : Int, appI 8 (sdeeps nodes i) [z] = some (sdeeps nodes i ++ [z]) := fun z => app1 (by rw [sdeeps_len]; omega) (by omega)
        cases hb : (nodeB nodes i && okU nodes i) with
        | true =>
          simp only [Bool.and_eq_true] at hb
          simp only [Bool.not_true, Bool.false_eq_true, if_false, Option.bind_some]
          rw [sdeeps_ok hb.2, spec_dloop nodes i hil hb.2 hb.1, ← sdeeps_ok hb.2]
          simp only [Option.bind_some]
          rw [hsucc]
          by_cases hd10 : dval nodes i > 10
          · have hf : okU nodes (i + 1) = false := by
              rw [Bool.eq_false_iff]
              intro h
              have := (okU_at h (Nat.lt_succ_self i)).2
              omega
            rw [if_pos (by simpa using hd10), hf]
            simp only [Option.bind_some, happ, Bool.false_eq_true, if_false]
          · have hf : okU nodes (i + 1) = true := by
              simp only [okU, hb.1, hb.2, Bool.true_and, decide_eq_true_eq]
              show dval nodes i ≤ 10
              omega
            rw [if_neg (by simpa using hd10), hf]
            simp only [Option.bind_some, happ, if_true]
        | false =>
          have hf : okU nodes (i + 1) = false := by
            rw [Bool.eq_false_iff]
            intro h
            simp only [okU, Bool.and_eq_true] at h
            rw [h.1, h.2.1] at hb
            cases hb
          simp only [Bool.not_false, if_true, Option.bind_some]
          rw [loopP_inr (r := (0 : Int)) (by simp [spec_l04Deeps_l2])]
          simp only [Option.bind_some]
          rw [hsucc, hf]
          simp [happ]
      have := congrArg (fun z => Option.bind z fun out70 : List Int => (some (Sum.inl (out70, IntKind.wrap .i64 ((i : Int) + 1))) : Option ((List Int × Int) ⊕ List Int))) hfin
      simp only [Option.bind_some, w64_nat hil hn] at this
      rw [w64_nat hil hn]
      exact this
    · right
      have : i = k + 1 := by omega
      subst this
      have hd : decide (((k + 1 : Nat) : Int) ≤ (k : Int)) = false := by simp only [decide_eq_false_iff_not]; omega
      exact ⟨_, by simp only [spec_l04Deeps_l1, hd, Bool.false_eq_true, if_false, Option.bind_some], rfl⟩) ([], 0) ⟨0, rfl, by omega, rfl⟩
  rw [h1, h2]
  rfl
theorem spec_DeepOf_eq (nodes : List GNode) (hn : nodes.length ≤ 1048576) (k : Int) : spec_DeepOf nodes k = some (deepB nodes k) := by
  unfold spec_DeepOf deepB
  simp only [spec_in_eq, Option.bind_some, w64_pred hn]
  by_cases hi : inB k 0 ((nodes.length : Int) - 1) = true
  · have hi' := inB_iff.1 hi
    have hkk : k = ((k.toNat : Nat) : Int) := by omega
    have hk : k.toNat < nodes.length := by omega
    generalize k.toNat = m at *
    subst hkk
    simp only [hi, Bool.not_true, Bool.false_eq_true, if_false]
    rw [spec_Deeps_eq nodes hn m hk]
    simp only [Option.bind_some, getI_nat]
    rw [sdeeps_get nodes (Nat.lt_succ_self m)]
    by_cases hok : okU nodes (m + 1) = true
    · rw [if_pos hok, if_pos (show 0 ≤ (m : Int) ∧ (m : Int) < nodes.length ∧ okU nodes (m + 1) = true from ⟨by omega, by omega, hok⟩)]; rfl
    · rw [if_neg hok, if_neg (show ¬ (0 ≤ (m : Int) ∧ (m : Int) < nodes.length ∧ okU nodes (m + 1) = true) from fun h => hok h.2.2)]; rfl
  · have hi' := inB_false.1 (Bool.eq_false_iff.2 hi)
    simp only [Bool.eq_false_iff.2 hi, Bool.not_false, if_true]
    rw [if_neg (show ¬ (0 ≤ k ∧ k < nodes.length ∧ okU nodes (k.toNat + 1) = true) from fun h => hi' ⟨h.1, by omega⟩)]
end Go.OM
set_option linter.unusedVariables false
set_option linter.unusedSimpArgs false
namespace Go.OM
end Go.OM
set_option linter.unusedVariables false
set_option linter.unusedSimpArgs false
namespace Go.OM
def paramB (x : GParam) : Bool := nameB x.Name && inB x.Typ 1 4
def bodyB (p : GProgram) (f : GFn) : Bool := inB f.Body 0 ((p.Nodes.length : Int) - 1) && (match p.Nodes[f.Body.toNat]? with | some x => x.Kind == 20 | none => false)
def retB (p : GProgram) (f : GFn) : Bool := if f.Res = 0 then f.Ret == -1 else inB f.Ret 0 ((p.Nodes.length : Int) - 1) && (match p.Nodes[f.Ret.toNat]? with | some x => valueB x.Kind | none => false)
def fnB (p : GProgram) (f : GFn) : Bool := nameB f.Name && (!decide ((f.Params.length : Int) > 3) && (inB f.Res 0 2 && (f.Params.all paramB && (bodyB p f && retB p f))))
theorem bodyB_iff {p : GProgram} {f : GFn} : bodyB p f = true ↔ 0 ≤ f.Body ∧ f.Body < p.Nodes.length ∧ ∃ x, p.Nodes[f.Body.toNat]? = some x ∧ x.Kind = 20 := by
  unfold bodyB
  rw [Bool.and_eq_true, inB_iff]
  constructor
  · rintro ⟨⟨h1, h2⟩, h3⟩
    refine ⟨h1, by omega, ?_⟩
    split at h3
    · rename_i x hx; exact ⟨x, hx, by simpa using h3⟩
    · cases h3
  · rintro ⟨h1, h2, x, hx, hk⟩
    refine ⟨⟨h1, by omega⟩, ?_⟩
    rw [hx]; simpa using hk
theorem body_step (p : GProgram) (f : GFn) (hn : p.Nodes.length ≤ 1048576) (g : Bool → Option Bool) : (Option.bind (if (!(inB f.Body 0 ((p.Nodes.length : Int) - 1))) = true then some true else (getI p.Nodes f.Body).bind fun e => some (e.Kind != 20)) fun v => g v) = g (!(bodyB p f)) := by
  unfold bodyB
  cases h : inB f.Body 0 ((p.Nodes.length : Int) - 1) with
  | false => rfl
  | true =>
    have h' := inB_iff.1 h
    have hlt : f.Body.toNat < p.Nodes.length := by omega
    rw [getI_in h'.1 (by omega), List.getElem?_eq_getElem hlt]
    rfl
theorem ret_step (p : GProgram) (f : GFn) (hn : p.Nodes.length ≤ 1048576) : (if (f.Res == 0) = true then some (f.Ret == (-1)) else Option.bind (if inB f.Ret 0 ((p.Nodes.length : Int) - 1) = true then (getI p.Nodes f.Ret).bind fun e => some (valueB e.Kind) else some false) fun v => some v) = some (retB p f) := by
  unfold retB
  by_cases h0 : f.Res = 0
  · rw [if_pos (by simpa using h0), if_pos h0]
  · rw [if_neg (by simpa using h0), if_neg h0]
    cases h : inB f.Ret 0 ((p.Nodes.length : Int) - 1) with
    | false => rfl
    | true =>
      have h' := inB_iff.1 h
      have hlt : f.Ret.toNat < p.Nodes.length := by omega
      rw [getI_in h'.1 (by omega), List.getElem?_eq_getElem hlt]
      rfl
theorem impl_fnOk_eq (p : GProgram) (f : GFn) (hn : p.Nodes.length ≤ 1048576) : impl_fnOk p f = some (fnB p f) := by
  unfold impl_fnOk fnB
  simp only [impl_NameOk_eq, impl_in_eq, impl_isValue_eq, Option.bind_some, w64_pred hn]
  cases hnm : nameB f.Name with
  | false => rfl
  | true =>
    simp only [Bool.not_true, Bool.false_eq_true, if_false, Bool.true_and]
    by_cases hp3 : (f.Params.length : Int) > 3
    · rw [if_pos (by simpa using hp3), decide_eq_true hp3]; rfl
    · rw [if_neg (by simpa using hp3), decide_eq_false hp3]
      simp only [Bool.not_false, Bool.true_and]
      have hres : (if (f.Res != 0) = true then if (f.Res != 1) = true then some (f.Res != 2) else some false else some false) = some (!(inB f.Res 0 2)) := by
        by_cases h0 : f.Res = 0
        · rw [h0]; rfl
        · by_cases h1 : f.Res = 1
          · rw [h1]; rfl
          · by_cases h2 : f.Res = 2
            · rw [h2]; rfl
            · have : inB f.Res 0 2 = false := inB_false.2 (by omega)
              simp [this, h0, h1, h2]
      rw [hres]
      cases hin : inB f.Res 0 2 with
      | false => rfl
      | true =>
        simp only [Option.bind_some, Bool.not_true, Bool.false_eq_true, if_false, Bool.true_and]
        rw [loopP_all f.Params paramB (impl_fnOk_l1 f) (fun k hk => by
          simp only [impl_fnOk_l1, ofNat_lt_true hk, if_true, getI_at hk, Option.bind_some, impl_NameOk_eq, impl_in_eq, w64_nat hk (by omega)]
          unfold paramB
          cases nameB f.Params[k].Name
          · rfl
          · cases inB f.Params[k].Typ 1 4 <;> rfl) (by simp [impl_fnOk_l1])]
        cases f.Params.all paramB with
        | false => rfl
        | true =>
          simp only [if_true, Option.bind_some, Bool.true_and]
          rw [body_step p f hn]
          cases bodyB p f with
          | false => rfl
          | true =>
            simp only [Bool.not_true, Bool.false_eq_true, if_false, Bool.true_and]
            exact ret_step p f hn
def fnAtQ (p : GProgram) (nm : ByteArray) (k : Nat) : Option Int := match p.Fns[k]? with
  | some f => if sEq f.Name nm = true then some (k : Int) else none
  | none => none
def fnAtB (p : GProgram) (nm : ByteArray) : Int := ((List.range p.Fns.length).findSome? (fnAtQ p nm)).getD (-1)
theorem impl_FnAt_eq (p : GProgram) (nm : ByteArray) (hp : p.Fns.length ≤ 1048576) : impl_FnAt p nm = some (fnAtB p nm) := by
  unfold impl_FnAt fnAtB
  rw [find_range p.Fns.length (fnAtQ p nm) (impl_FnAt_l1 p nm) (fun k hk => by
    simp only [impl_FnAt_l1, ofNat_lt_true hk, if_true, getI_at hk, Option.bind_some, w64_nat hk hp]
    unfold fnAtQ
    rw [List.getElem?_eq_getElem hk]
    cases h : sEq p.Fns[k].Name nm <;> simp [h]) (by simp [impl_FnAt_l1])]
  cases (List.range p.Fns.length).findSome? (fnAtQ p nm) <;> rfl
theorem spec_FnAt_eq (p : GProgram) (nm : ByteArray) (hp : p.Fns.length ≤ 1048576) : spec_FnAt p nm = some (fnAtB p nm) := impl_FnAt_eq p nm hp
theorem spec_l04Fn_eq (p : GProgram) (i : Nat) (hi : i < p.Fns.length) (hn : p.Nodes.length ≤ 1048576) (hp : p.Fns.length ≤ 1048576) : spec_l04Fn p i = some (fnB p p.Fns[i] && fnAtB p p.Fns[i].Name == i) := by
  unfold spec_l04Fn fnB
  simp only [getI_at hi, spec_NameOk_eq, spec_in_eq, spec_l04Value_eq, spec_FnAt_eq p _ hp, Option.bind_some, w64_pred hn]
  generalize p.Fns[i] = f
  cases hnm : nameB f.Name with
  | false => rfl
  | true =>
    simp only [Bool.not_true, Bool.false_eq_true, if_false, Bool.true_and]
    cases hat : fnAtB p f.Name == i with
    | false =>
      have : (fnAtB p f.Name != i) = true := by simp only [bne, hat, Bool.not_false]
      rw [this, Bool.and_false]; rfl
    | true =>
      have : (fnAtB p f.Name != i) = false := by simp only [bne, hat, Bool.not_true]
      rw [this, Bool.and_true]
      simp only [Bool.false_eq_true, if_false]
      by_cases hp3 : (f.Params.length : Int) > 3
      · rw [if_pos (by simpa using hp3), decide_eq_true hp3]; rfl
      · rw [if_neg (by simpa using hp3), decide_eq_false hp3]
        simp only [Bool.not_false, Bool.true_and]
        cases hin : inB f.Res 0 2 with
        | false => rfl
        | true =>
          simp only [Option.bind_some, Bool.not_true, Bool.false_eq_true, if_false, Bool.true_and]
          rw [loopP_all f.Params paramB (spec_l04Fn_l1 f) (fun k hk => by
            simp only [spec_l04Fn_l1, ofNat_lt_true hk, if_true, getI_at hk, Option.bind_some, spec_NameOk_eq, spec_in_eq, w64_nat hk (by omega)]
            unfold paramB
            cases nameB f.Params[k].Name
            · rfl
            · cases inB f.Params[k].Typ 1 4 <;> rfl) (by simp [spec_l04Fn_l1])]
          cases f.Params.all paramB with
          | false => rfl
          | true =>
            simp only [if_true, Option.bind_some, Bool.true_and]
            rw [body_step p f hn]
            cases bodyB p f with
            | false => rfl
            | true =>
              simp only [Bool.not_true, Bool.false_eq_true, if_false, Bool.true_and]
              exact ret_step p f hn
def incs (d : Int) (l : List Int) (m : List Int) : List Int := l.foldl (fun m e => m.set e.toNat (m.getD e.toNat 0 + d)) m
theorem incs_len (d : Int) : ∀ (l m : List Int), (incs d l m).length = m.length
  | [], m => rfl
  | e :: l, m => by
    show (incs d l (m.set e.toNat (m.getD e.toNat 0 + d))).length = _
    rw [incs_len d l]; simp
theorem incs_append (d : Int) (a b m : List Int) : incs d (a ++ b) m = incs d b (incs d a m) := by unfold incs; rw [List.foldl_append]
theorem incs_get (d : Int) (k : Nat) : ∀ (l m : List Int), (∀ e ∈ l, 0 ≤ e ∧ e < m.length) → (incs d l m).getD k 0 = m.getD k 0 + d * (l.count (k : Int) : Nat)
  | [], m, _ => by simp [incs]
  | e :: l, m, h => by
    have he := h e (by simp)
    have ih := incs_get d k l (m.set e.toNat (m.getD e.toNat 0 + d)) (fun x hx => by rw [List.length_set]; exact h x (by simp [hx]))
    show (incs d l (m.set e.toNat (m.getD e.toNat 0 + d))).getD k 0 = _
    rw [ih, List.count_cons]
    by_cases hk : e.toNat = k
    · have : (e == (k : Int)) = true := by simp only [beq_iff_eq]; omega
      rw [if_pos this]
      have hg : (m.set e.toNat (m.getD e.toNat 0 + d)).getD k 0 = m.getD k 0 + d := by
        rw [List.getD_eq_getElem?_getD, List.getElem?_set, if_pos hk, if_pos (by omega), hk]; rfl
      rw [hg, Int.natCast_add, Int.mul_add]
      simp only [Int.natCast_one, Int.mul_one]
      omega
    · have : ¬ (e == (k : Int)) = true := by simp only [beq_iff_eq]; omega
      rw [if_neg this]
      have hg : (m.set e.toNat (m.getD e.toNat 0 + d)).getD k 0 = m.getD k 0 := by
        rw [List.getD_eq_getElem?_getD, List.getElem?_set, if_neg hk, ← List.getD_eq_getElem?_getD]
      rw [hg]; rfl
structure Bd (n : Nat) (C : Int) (m : List Int) : Prop where
  len : m.length = n
  bnd : ∀ v ∈ m, 0 ≤ v ∧ v ≤ C
theorem Bd.mono {n : Nat} {C C' : Int} {m : List Int} (h : Bd n C m) (hc : C ≤ C') : Bd n C' m := ⟨h.len, fun v hv => by have := h.bnd v hv; omega⟩
theorem Bd.getD {n : Nat} {C : Int} {m : List Int} (h : Bd n C m) (hC : 0 ≤ C) (k : Nat) : 0 ≤ m.getD k 0 ∧ m.getD k 0 ≤ C := by
  rw [List.getD_eq_getElem?_getD]
  cases hk : m[k]? with
  | none => exact ⟨Int.le_refl 0, hC⟩
  | some v => exact h.bnd v (List.mem_of_getElem? hk)
theorem Bd.set {n : Nat} {C d : Int} {m : List Int} (h : Bd n C m) (hC : 0 ≤ C) (hd : 0 ≤ d) (k : Nat) : Bd n (C + d) (m.set k (m.getD k 0 + d)) := ⟨by rw [List.length_set]; exact h.len, fun v hv => by
  rcases List.mem_or_eq_of_mem_set hv with h1 | h1
  · have := h.bnd v h1; omega
  · have := h.getD hC k; omega⟩
theorem Bd.incs {n : Nat} {d : Int} (hd : 0 ≤ d) : ∀ (l : List Int) {C : Int} {m : List Int}, 0 ≤ C → Bd n C m → Bd n (C + d * l.length) (Go.OM.incs d l m)
  | [], C, m, hC, h => by simpa [Go.OM.incs] using h
  | e :: l, C, m, hC, h => by
    have := Bd.incs hd l (C := C + d) (by omega) (h.set hC hd e.toNat)
    refine this.mono ?_
    rw [List.length_cons, Int.natCast_add, Int.mul_add]
    simp only [Int.natCast_one, Int.mul_one]
    omega
theorem inc_loop {ρ : Type} (n : Nat) (kids : List Int) (hk : ∀ e ∈ kids, 0 ≤ e ∧ e < n) (C : Int) (hC : 0 ≤ C) (f : List Int × Int → Option ((List Int × Int) ⊕ ρ)) (fin : List Int → ρ)
    (hf : ∀ (m : List Int) (j : Nat) (hj : j < kids.length), Bd n (C + kids.length) m → f (m, j) = some (.inl (m.set kids[j].toNat (m.getD kids[j].toNat 0 + 1), ((j + 1 : Nat) : Int))))
    (he : ∀ m : List Int, f (m, kids.length) = some (.inr (fin m))) (m : List Int) (hm : Bd n C m) : loopP f (m, 0) = some (fin (incs 1 kids m)) := by
  have := loopP_fold kids (fun (m : List Int) j => (m, (j : Int))) (fun j m => Bd n (C + j) m) (fun m e => .inl (m.set e.toNat (m.getD e.toNat 0 + 1))) fin f (fun m j hj hI => by
    left
    refine ⟨_, rfl, hf m j hj (hI.mono (by omega)), ?_⟩
    have := hI.set (by omega) (show (0 : Int) ≤ 1 by omega) kids[j].toNat
    exact this.mono (by omega)) (fun m _ => he m) m (by simpa using hm)
  rw [foldE_inl] at this
  exact this
def kidAll (nodes : List GNode) : List Int := nodes.flatMap (·.Kids)
def kc (nodes : List GNode) (k : Nat) : Nat := (kidAll nodes).count (k : Int)
theorem okU_kids {nodes : List GNode} (h : okU nodes nodes.length = true) {x : GNode} (hx : x ∈ nodes) : x.Kids.length ≤ 12 ∧ (∀ e ∈ x.Kids, 0 ≤ e ∧ e < nodes.length) ∧ x.Kids.Nodup := by
  obtain ⟨i, hi, rfl⟩ := List.mem_iff_getElem.1 hx
  have hn := (okU_at h hi).1
  have hg : nodes[i]? = some nodes[i] := List.getElem?_eq_getElem hi
  refine ⟨nodeB_kidlen hn hg, fun e he => ?_, ?_⟩
  · have := nodeB_kids hn hg e he; omega
  · obtain ⟨_, _, _, h3, _⟩ := nodeB_get hn
    rw [List.nodup_iff_pairwise_ne, List.pairwise_iff_getElem]
    intro a b ha hb hab e
    refine (h3 b hb).2.1 ?_
    rw [← e]
    refine List.mem_iff_getElem.2 ⟨a, by simp only [List.length_take]; omega, ?_⟩
    rw [List.getElem_take]
theorem kc_le {nodes : List GNode} (h : okU nodes nodes.length = true) (k : Nat) : kc nodes k ≤ nodes.length := by
  have key : ∀ l : List GNode, (∀ x ∈ l, x.Kids.Nodup) → (l.flatMap (·.Kids)).count (k : Int) ≤ l.length := by
    intro l
    induction l with
    | nil => intro _; simp
    | cons x l ih =>
      intro hl
      rw [List.flatMap_cons, List.count_append, List.length_cons]
      have h1 := ih fun y hy => hl y (by simp [hy])
      have h2 := List.nodup_iff_count.1 (hl x (by simp)) (k : Int)
      omega
  exact key nodes fun x hx => (okU_kids h hx).2.2
theorem kids_loop (nodes : List GNode) (hok : okU nodes nodes.length = true) (hn : nodes.length ≤ 300) (f : List Int × Int → Option ((List Int × Int) ⊕ List Int))
    (hf : ∀ (m : List Int) (i : Nat) (hi : i < nodes.length), Bd nodes.length (12 * i) m → f (m, i) = some (.inl (incs 1 nodes[i].Kids m, ((i + 1 : Nat) : Int))))
    (he : ∀ m : List Int, f (m, nodes.length) = some (.inr m)) : loopP f (List.replicate nodes.length 0, 0) = some (incs 1 (kidAll nodes) (List.replicate nodes.length 0)) := by
  have := loopP_fold nodes (fun (m : List Int) j => (m, (j : Int))) (fun j m => Bd nodes.length (12 * j) m) (fun m x => .inl (incs 1 x.Kids m)) id f (fun m j hj hI => by
    left
    refine ⟨_, rfl, hf m j hj hI, ?_⟩
    have h12 := (okU_kids hok (List.getElem_mem hj)).1
    have := Bd.incs (show (0 : Int) ≤ 1 by omega) nodes[j].Kids (by omega) hI
    exact this.mono (by omega)) (fun m _ => he m) (List.replicate nodes.length 0) ⟨by simp, fun v hv => by
      have := (List.mem_replicate.1 hv).2
      omega⟩
  rw [foldE_inl] at this
  have e : ∀ (l : List GNode) (m : List Int), l.foldl (fun m x => incs 1 x.Kids m) m = incs 1 (l.flatMap (·.Kids)) m := by
    intro l
    induction l with
    | nil => intro m; rfl
    | cons x l ih => intro m; rw [List.foldl_cons, List.flatMap_cons, incs_append, ih]
  rw [e] at this
  exact this
def met0 (nodes : List GNode) : List Int := incs 1 (kidAll nodes) (List.replicate nodes.length 0)
theorem met0_len (nodes : List GNode) : (met0 nodes).length = nodes.length := by unfold met0; rw [incs_len]; simp
theorem met0_get {nodes : List GNode} (h : okU nodes nodes.length = true) (k : Nat) : (met0 nodes).getD k 0 = (kc nodes k : Nat) := by
  unfold met0
  rw [incs_get 1 k _ _ (fun e he => by
    obtain ⟨x, hx, hm⟩ := List.mem_flatMap.1 he
    rw [List.length_replicate]
    exact (okU_kids h hx).2.1 e hm)]
  have : (List.replicate nodes.length (0 : Int)).getD k 0 = 0 := by
    rw [List.getD_eq_getElem?_getD, List.getElem?_replicate]; split <;> rfl
  rw [this]
  unfold kc
  omega
theorem impl_met (p : GProgram) (hok : okU p.Nodes p.Nodes.length = true) (hn : p.Nodes.length ≤ 300) : loopP (impl_ProgramOk_l1 p) (List.replicate p.Nodes.length 0, 0) = some (met0 p.Nodes) := by
  refine kids_loop p.Nodes hok hn _ (fun m i hi hI => ?_) (fun m => by simp [impl_ProgramOk_l1])
  obtain ⟨h12, hb, _⟩ := okU_kids hok (List.getElem_mem hi)
  simp only [impl_ProgramOk_l1, ofNat_lt_true hi, if_true, getI_at hi, Option.bind_some]
  rw [inc_loop p.Nodes.length p.Nodes[i].Kids hb (12 * i) (by omega) (impl_ProgramOk_l2 p.Nodes[i]) id (fun m j hj hm => by
    have hbe := hb _ (List.getElem_mem hj)
    have hg := hm.getD (by omega) p.Nodes[i].Kids[j].toNat
    simp only [impl_ProgramOk_l2, ofNat_lt_true hj, if_true, getI_at hj, Option.bind_some]
    rw [getI_in hbe.1 (by rw [hm.len]; exact hbe.2)]
    have hlt : p.Nodes[i].Kids[j].toNat < m.length := by rw [hm.len]; omega
    have e : m[p.Nodes[i].Kids[j].toNat] = m.getD p.Nodes[i].Kids[j].toNat 0 := by rw [List.getD_eq_getElem?_getD, List.getElem?_eq_getElem hlt]; rfl
    rw [e]
    simp only [Option.bind_some, bindS_def, w64 (n := m.getD p.Nodes[i].Kids[j].toNat 0 + 1) (by omega) (by omega), w64_nat hj (show p.Nodes[i].Kids.length ≤ 1048576 by omega)]) (fun m => by simp [impl_ProgramOk_l2]) m hI]
  simp only [Option.bind_some, id, w64_nat hi (show p.Nodes.length ≤ 1048576 by omega)]
theorem spec_met (nodes : List GNode) (hok : okU nodes nodes.length = true) (hn : nodes.length ≤ 300) : spec_l04Used nodes = some (met0 nodes) := by
  unfold spec_l04Used
  rw [mkI_len _ _ _ (by omega) (by omega)]
  simp only [Option.bind_some]
  rw [kids_loop nodes hok hn (spec_l04Used_l1 nodes) (fun m i hi hI => by
    obtain ⟨h12, hb, _⟩ := okU_kids hok (List.getElem_mem hi)
    simp only [spec_l04Used_l1, ofNat_lt_true hi, if_true]
    rw [inc_loop nodes.length nodes[i].Kids hb (12 * i) (by omega) (spec_l04Used_l2 nodes i) id (fun m j hj hm => by
      have hbe := hb _ (List.getElem_mem hj)
      have hg := hm.getD (by omega) nodes[i].Kids[j].toNat
      simp only [spec_l04Used_l2, getI_at hi, ofNat_lt_true hj, if_true, getI_at hj, Option.bind_some]
      rw [getI_in hbe.1 (by rw [hm.len]; exact hbe.2)]
      have hlt : nodes[i].Kids[j].toNat < m.length := by rw [hm.len]; omega
      have e : m[nodes[i].Kids[j].toNat] = m.getD nodes[i].Kids[j].toNat 0 := by rw [List.getD_eq_getElem?_getD, List.getElem?_eq_getElem hlt]; rfl
      rw [e]
      simp only [Option.bind_some, bindS_def, w64 (n := m.getD nodes[i].Kids[j].toNat 0 + 1) (by omega) (by omega), w64_nat hj (show nodes[i].Kids.length ≤ 1048576 by omega)]) (fun m => by simp [spec_l04Used_l2, getI_at hi]) m hI]
    simp only [Option.bind_some, id, w64_nat hi (show nodes.length ≤ 1048576 by omega)]) (fun m => by simp [spec_l04Used_l1])]
  rfl
def rootsF (f : GFn) : List Int := if f.Ret < 0 then [f.Body] else [f.Body, f.Ret]
def rootsT (p : GProgram) (n : Nat) : List Int := (p.Fns.take n).flatMap rootsF
def roots (p : GProgram) : List Int := p.Fns.flatMap rootsF
theorem rootsT_all (p : GProgram) : rootsT p p.Fns.length = roots p := by unfold rootsT roots; rw [List.take_length]
theorem rootsT_succ (p : GProgram) {n : Nat} (h : n < p.Fns.length) : rootsT p (n + 1) = rootsT p n ++ rootsF p.Fns[n] := by
  unfold rootsT
  rw [List.take_add_one, List.getElem?_eq_getElem h, List.flatMap_append]; simp
def goodF (p : GProgram) (i : Nat) : Bool := match p.Fns[i]? with
  | some f => fnB p f && fnAtB p f.Name == i
  | none => false
theorem goodF_at {p : GProgram} {i : Nat} (h : i < p.Fns.length) : goodF p i = (fnB p p.Fns[i] && fnAtB p p.Fns[i].Name == i) := by unfold goodF; rw [List.getElem?_eq_getElem h]
theorem fnB_roots {p : GProgram} {f : GFn} (h : fnB p f = true) : (∀ e ∈ rootsF f, 0 ≤ e ∧ e < p.Nodes.length) ∧ 0 ≤ f.Body ∧ f.Body < p.Nodes.length ∧ f.Ret < p.Nodes.length := by
  unfold fnB at h
  simp only [Bool.and_eq_true] at h
  obtain ⟨_, _, _, _, h5, h6⟩ := h
  obtain ⟨b1, b2, _⟩ := bodyB_iff.1 h5
  have hr : f.Ret < p.Nodes.length := by
    unfold retB at h6
    split at h6
    · simp only [beq_iff_eq] at h6; omega
    · rw [Bool.and_eq_true, inB_iff] at h6; omega
  refine ⟨?_, b1, b2, hr⟩
  intro e he
  unfold rootsF at he
  split at he
  · simp only [List.mem_singleton] at he; subst he; exact ⟨b1, b2⟩
  · simp only [List.mem_cons, List.not_mem_nil, or_false] at he
    rcases he with rfl | rfl
    · exact ⟨b1, b2⟩
    · exact ⟨by omega, hr⟩
def markR : List Int → List Int → Option (List Int)
  | [], m => some m
  | r :: rs, m => if m.getD r.toNat 0 = 0 then markR rs (m.set r.toNat (-1)) else none
theorem markR_append : ∀ (a b m : List Int), markR (a ++ b) m = (markR a m).bind (markR b)
  | [], b, m => rfl
  | r :: a, b, m => by
    simp only [List.cons_append, markR]
    split
    · exact markR_append a b _
    · rfl
theorem markR_spec (n : Nat) : ∀ (rs m : List Int), m.length = n → (∀ r ∈ rs, 0 ≤ r ∧ r < n) →
    (match markR rs m with
      | some m' => (rs.Nodup ∧ ∀ r ∈ rs, m.getD r.toNat 0 = 0) ∧ m'.length = n ∧ ∀ k : Nat, m'.getD k 0 = if (k : Int) ∈ rs then -1 else m.getD k 0
      | none => ¬ (rs.Nodup ∧ ∀ r ∈ rs, m.getD r.toNat 0 = 0))
  | [], m, hm, _ => by simp [markR, hm]
  | r :: rs, m, hm, h => by
    have hr := h r (by simp)
    simp only [markR]
    by_cases h0 : m.getD r.toNat 0 = 0
    · rw [if_pos h0]
      have ih := markR_spec n rs (m.set r.toNat (-1)) (by rw [List.length_set]; exact hm) (fun x hx => h x (by simp [hx]))
      have hget : ∀ k : Nat, (m.set r.toNat (-1)).getD k 0 = if (k : Int) = r then -1 else m.getD k 0 := by
        intro k
        rw [List.getD_eq_getElem?_getD, List.getElem?_set]
        by_cases hk : r.toNat = k
        · rw [if_pos hk, if_pos (by omega), if_pos (by omega)]; rfl
        · rw [if_neg hk, if_neg (by omega), ← List.getD_eq_getElem?_getD]
      have hre : ∀ x ∈ rs, ((x.toNat : Nat) : Int) = x := fun x hx => by have := h x (by simp [hx]); omega
      split at ih
      · rename_i m' hm'
        try rw [hm']
        obtain ⟨⟨i1, i2⟩, i3, i4⟩ := ih
        have hnr : r ∉ rs := fun hm => by
          have := i2 r hm
          rw [hget, hre r hm, if_pos rfl] at this
          omega
        refine ⟨⟨List.nodup_cons.2 ⟨hnr, i1⟩, fun x hx => ?_⟩, i3, fun k => ?_⟩
        · rcases List.mem_cons.1 hx with rfl | hx
          · exact h0
          · have := i2 x hx
            rw [hget, hre x hx] at this
            split at this
            · omega
            · exact this
        · rw [i4, hget]
          by_cases h1 : (k : Int) ∈ rs
          · rw [if_pos h1, if_pos (by simp [h1])]
          · rw [if_neg h1]
            by_cases h2 : (k : Int) = r
            · rw [if_pos h2, if_pos (by simp [h2])]
            · rw [if_neg h2, if_neg (by simp [h1, h2])]
      · rename_i hm'
        try rw [hm']
        rintro ⟨j1, j2⟩
        rw [List.nodup_cons] at j1
        refine ih ⟨j1.2, fun x hx => ?_⟩
        rw [hget, hre x hx]
        have : ¬ x = r := fun e => j1.1 (e ▸ hx)
        rw [if_neg this]
        exact j2 x (by simp [hx])
    · rw [if_neg h0]
      rintro ⟨_, j2⟩
      exact h0 (j2 r (by simp))
def usedB (n : Nat) : Bool := n == 1 || n == 1000
def progB (p : GProgram) : Bool := inB p.Nodes.length 1 300 && (inB p.Fns.length 1 8 && (okU p.Nodes p.Nodes.length && ((List.range p.Fns.length).all (goodF p) && (List.range p.Nodes.length).all fun k => usedB (kc p.Nodes k + 1000 * (roots p).count (k : Int)))))
theorem deepB_last {nodes : List GNode} (h : 1 ≤ nodes.length) : (deepB nodes ((nodes.length : Int) - 1) == 0) = !(okU nodes nodes.length) := by
  unfold deepB
  have e : ((nodes.length : Int) - 1).toNat = nodes.length - 1 := by omega
  rw [e, show nodes.length - 1 + 1 = nodes.length by omega]
  cases hok : okU nodes nodes.length with
  | true =>
    rw [if_pos ⟨by omega, by omega, rfl⟩]
    have := dval_pos nodes (nodes.length - 1)
    have hne : ¬ dval nodes (nodes.length - 1) = 0 := by omega
    simp [hne]
  | false => rw [if_neg (fun h => by cases h.2.2)]; rfl
theorem impl_l4_eq (p : GProgram) (f : GFn) (hf : fnB p f = true) (m : List Int) (hm : m.length = p.Nodes.length) : loopP (impl_ProgramOk_l4 f) (m, 0) = some (match markR (rootsF f) m with | some m' => .inl m' | none => .inr (.inr (.inr false))) := by
  obtain ⟨_, b0, b1, r1⟩ := fnB_roots hf
  have hl : (([f.Body, f.Ret] : List Int).length : Int) = 2 := rfl
  have g0 : getI [f.Body, f.Ret] 0 = some f.Body := rfl
  have g1 : getI [f.Body, f.Ret] 1 = some f.Ret := rfl
  have d0 : decide ((0 : Int) < 2) = true := rfl
  have d1 : decide ((1 : Int) < 2) = true := rfl
  have d2 : decide ((2 : Int) < 2) = false := rfl
  have w0 : IntKind.wrap .i64 ((0 : Int) + 1) = 1 := rfl
  have w1 : IntKind.wrap .i64 ((1 : Int) + 1) = 2 := rfl
  have hgd : ∀ (m : List Int) (v : Int), m.length = p.Nodes.length → 0 ≤ v → v < p.Nodes.length → getI m v = some (m.getD v.toNat 0) := fun m v hm h0 h1 => by
    have hlt : v.toNat < m.length := by omega
    rw [getI_in h0 (by omega), List.getD_eq_getElem?_getD, List.getElem?_eq_getElem hlt]; rfl
  have step1 : ∀ m : List Int, m.length = p.Nodes.length → loopP (impl_ProgramOk_l4 f) (m, 1) = some (match markR (if f.Ret < 0 then [] else [f.Ret]) m with | some m' => .inl m' | none => .inr (.inr (.inr false))) := by
    intro m hm
    by_cases hr : f.Ret < 0
    · have : impl_ProgramOk_l4 f (m, 1) = some (.inl (m, 2)) := by
        simp only [impl_ProgramOk_l4, hl, d1, if_true, g1, Option.bind_some, w1]
        rw [if_pos (by simpa using hr)]
      rw [loopP_inl this, if_pos hr, loopP_inr (r := .inl m) (by simp only [impl_ProgramOk_l4, hl, d2, Bool.false_eq_true, if_false])]
      rfl
    · rw [if_neg hr]
      simp only [markR]
      by_cases hz : m.getD f.Ret.toNat 0 = 0
      · have : impl_ProgramOk_l4 f (m, 1) = some (.inl (m.set f.Ret.toNat (-1), 2)) := by
          simp only [impl_ProgramOk_l4, hl, d1, if_true, g1, Option.bind_some, w1]
          rw [if_neg (by simpa using hr), hgd m f.Ret hm (by omega) r1]
          simp only [Option.bind_some, hz, bindS_def]
          rfl
        rw [loopP_inl this, if_pos hz, loopP_inr (r := .inl (m.set f.Ret.toNat (-1))) (by simp only [impl_ProgramOk_l4, hl, d2, Bool.false_eq_true, if_false])]
      · have : impl_ProgramOk_l4 f (m, 1) = some (.inr (.inr (.inr (.inr false)))) := by
          simp only [impl_ProgramOk_l4, hl, d1, if_true, g1, Option.bind_some, w1]
          rw [if_neg (by simpa using hr), hgd m f.Ret hm (by omega) r1]
          simp only [Option.bind_some]
          rw [if_pos (by simpa using hz)]
        rw [loopP_inr this, if_neg hz]
  have hsplit : rootsF f = f.Body :: (if f.Ret < 0 then [] else [f.Ret]) := by unfold rootsF; split <;> rfl
  rw [hsplit]
  simp only [markR]
  have hb : ¬ f.Body < 0 := by omega
  by_cases hz : m.getD f.Body.toNat 0 = 0
  · have : impl_ProgramOk_l4 f (m, 0) = some (.inl (m.set f.Body.toNat (-1), 1)) := by
      simp only [impl_ProgramOk_l4, hl, d0, if_true, g0, Option.bind_some, w0]
      rw [if_neg (by simpa using hb), hgd m f.Body hm b0 b1]
      simp only [Option.bind_some, hz, bindS_def]
      rfl
    rw [loopP_inl this, if_pos hz, step1 _ (by rw [List.length_set]; exact hm)]
  · have : impl_ProgramOk_l4 f (m, 0) = some (.inr (.inr (.inr (.inr false)))) := by
      simp only [impl_ProgramOk_l4, hl, d0, if_true, g0, Option.bind_some, w0]
      rw [if_neg (by simpa using hb), hgd m f.Body hm b0 b1]
      simp only [Option.bind_some]
      rw [if_pos (by simpa using hz)]
    rw [loopP_inr this, if_neg hz]
theorem markR_len : ∀ (rs m : List Int) {m' : List Int}, markR rs m = some m' → m'.length = m.length
  | [], m, m', h => by cases h; rfl
  | r :: rs, m, m', h => by
    simp only [markR] at h
    split at h
    · rw [markR_len rs _ h]; simp
    · cases h
theorem impl_l3_eq (p : GProgram) (hn : p.Nodes.length ≤ 300) (hp : p.Fns.length ≤ 8) (m0 : List Int) (hm0 : m0.length = p.Nodes.length) : loopP (impl_ProgramOk_l3 p) (m0, 0) = some (if (List.range p.Fns.length).all (goodF p) = true then (match markR (roots p) m0 with | some m => .inl m | none => .inr false) else .inr false) := by
  obtain ⟨r, h1, h2⟩ := loopP_run (f := impl_ProgramOk_l3 p) (fun s : List Int × Int => ∃ i : Nat, s.2 = i ∧ i ≤ p.Fns.length ∧ (∀ j, j < i → goodF p j = true) ∧ markR (rootsT p i) m0 = some s.1) (fun s => p.Fns.length - s.2.toNat) (fun r => r = if (List.range p.Fns.length).all (goodF p) = true then (match markR (roots p) m0 with | some m => .inl m | none => .inr false) else .inr false) (by
    rintro ⟨m, i⟩ ⟨i, rfl, hi, hg, hm⟩
    simp only at hm hi
    have hml : m.length = p.Nodes.length := by rw [markR_len _ _ hm]; exact hm0
    by_cases hlt : i < p.Fns.length
    · have hbad : (goodF p i = false) → (List.range p.Fns.length).all (goodF p) = false := by
        intro hb
        rw [Bool.eq_false_iff]
        intro h
        rw [List.all_eq_true.1 h i (List.mem_range.2 hlt)] at hb
        cases hb
      have hgi := goodF_at hlt
      have hcond : (Option.bind (if (!(fnB p p.Fns[i])) = true then some true else some (fnAtB p p.Fns[i].Name != (i : Int))) fun v : Bool => some v) = some (!(goodF p i)) := by
        rw [hgi]; cases fnB p p.Fns[i] <;> rfl
      have hcond2 : (if (!(fnB p p.Fns[i])) = true then some true else some (fnAtB p p.Fns[i].Name != (i : Int))) = some (!(goodF p i)) := by
        rw [hgi]; cases fnB p p.Fns[i] <;> rfl
      simp only [impl_ProgramOk_l3, ofNat_lt_true hlt, if_true, getI_at hlt, Option.bind_some, impl_fnOk_eq p _ (show p.Nodes.length ≤ 1048576 by omega), impl_FnAt_eq p _ (show p.Fns.length ≤ 1048576 by omega), hcond2]
      cases hgb : goodF p i with
      | false =>
        right
        refine ⟨.inr false, rfl, ?_⟩
        rw [hbad hgb]; rfl
      | true =>
        simp only [Bool.not_true, Bool.false_eq_true, if_false]
        have hfb : fnB p p.Fns[i] = true := by rw [hgi, Bool.and_eq_true] at hgb; exact hgb.1
        rw [impl_l4_eq p _ hfb m hml]
        simp only [Option.bind_some]
        have hsucc : markR (rootsT p (i + 1)) m0 = markR (rootsF p.Fns[i]) m := by
          rw [rootsT_succ p hlt, markR_append, hm]; rfl
        cases hmr : markR (rootsF p.Fns[i]) m with
        | some m' =>
          left
          refine ⟨(m', ((i + 1 : Nat) : Int)), by simp only [w64_nat hlt (show p.Fns.length ≤ 1048576 by omega)], ⟨i + 1, rfl, by omega, fun j hj => ?_, by rw [hsucc]; exact hmr⟩, by simp only [Int.toNat_natCast]; omega⟩
          by_cases e : j = i
          · subst e; exact hgb
          · exact hg j (by omega)
        | none =>
          right
          refine ⟨.inr false, rfl, ?_⟩
          have : markR (roots p) m0 = none := by
            have hsp : roots p = rootsT p (i + 1) ++ (p.Fns.drop (i + 1)).flatMap rootsF := by
              unfold roots rootsT
              rw [← List.flatMap_append, List.take_append_drop]
            rw [hsp, markR_append, hsucc, hmr]; rfl
          rw [this]; split <;> rfl
    · right
      have : i = p.Fns.length := by omega
      subst this
      refine ⟨.inl m, by simp [impl_ProgramOk_l3], ?_⟩
      rw [if_pos (List.all_eq_true.2 fun j hj => hg j (List.mem_range.1 hj)), ← rootsT_all, hm]) (m0, 0) ⟨0, rfl, by omega, fun j hj => by omega, rfl⟩
  rw [h1, h2]
theorem range_count (n : Nat) (m : List Int) (q : Int → Bool) (hm : m.length = n) : m.all q = (List.range n).all fun k => q (m.getD k 0) := by
  rw [Bool.eq_iff_iff, List.all_eq_true, List.all_eq_true]
  constructor
  · intro h k hk
    have hk' : k < m.length := by rw [hm]; exact List.mem_range.1 hk
    rw [List.getD_eq_getElem?_getD, List.getElem?_eq_getElem hk']
    exact h _ (List.getElem_mem hk')
  · intro h v hv
    obtain ⟨k, hk, rfl⟩ := List.mem_iff_getElem.1 hv
    have := h k (List.mem_range.2 (by omega))
    rw [List.getD_eq_getElem?_getD, List.getElem?_eq_getElem hk] at this
    exact this
theorem roots_bnd {p : GProgram} (h : (List.range p.Fns.length).all (goodF p) = true) : ∀ e ∈ roots p, 0 ≤ e ∧ e < p.Nodes.length := by
  intro e he
  obtain ⟨f, hf, hm⟩ := List.mem_flatMap.1 he
  obtain ⟨i, hi, rfl⟩ := List.mem_iff_getElem.1 hf
  have := List.all_eq_true.1 h i (List.mem_range.2 hi)
  rw [goodF_at hi, Bool.and_eq_true] at this
  exact (fnB_roots this.1).1 e hm
theorem impl_ProgramOk_eq (p : GProgram) (hn : p.Nodes.length ≤ 1048576) (hp : p.Fns.length ≤ 1048576) : impl_ProgramOk p = some (progB p) := by
  unfold impl_ProgramOk progB
  simp only [impl_in_eq, Option.bind_some, w64_pred hn, impl_DeepOf_eq p.Nodes hn]
  cases h1 : inB p.Nodes.length 1 300 with
  | false => rfl
  | true =>
    have h1' := inB_iff.1 h1
    cases h2 : inB p.Fns.length 1 8 with
    | false => rfl
    | true =>
      have h2' := inB_iff.1 h2
      simp only [Bool.not_true, Bool.false_eq_true, if_false, Bool.true_and, Option.bind_some, deepB_last (show 1 ≤ p.Nodes.length by omega)]
      cases h3 : okU p.Nodes p.Nodes.length with
      | false => rfl
      | true =>
        simp only [Bool.not_true, Bool.false_eq_true, if_false, Bool.true_and]
        rw [mkI_len _ _ _ (by omega) (by omega)]
        simp only [Option.bind_some]
        rw [impl_met p h3 (by omega)]
        simp only [Option.bind_some]
        rw [impl_l3_eq p (by omega) (by omega) _ (met0_len _)]
        cases h4 : (List.range p.Fns.length).all (goodF p) with
        | false => rfl
        | true =>
          simp only [if_true, Option.bind_some, Bool.true_and]
          have hb := roots_bnd h4
          have hsp := markR_spec p.Nodes.length (roots p) (met0 p.Nodes) (met0_len _) hb
          have hmet : ∀ r ∈ roots p, (met0 p.Nodes).getD r.toNat 0 = (kc p.Nodes r.toNat : Nat) := fun r _ => met0_get h3 _
          cases hmr : markR (roots p) (met0 p.Nodes) with
          | none =>
            rw [hmr] at hsp
            simp only at hsp ⊢
            congr 1
            rw [eq_comm, Bool.eq_false_iff]
            intro hall
            rw [List.all_eq_true] at hall
            refine hsp ⟨List.nodup_iff_count.2 fun a => ?_, fun r hr => ?_⟩
            · by_cases ha : a ∈ roots p
              · have hab := hb a ha
                have := hall a.toNat (List.mem_range.2 (by omega))
                rw [show ((a.toNat : Nat) : Int) = a by omega] at this
                simp only [usedB, Bool.or_eq_true, beq_iff_eq] at this
                omega
              · rw [List.count_eq_zero.2 ha]; omega
            · have hrb := hb r hr
              have := hall r.toNat (List.mem_range.2 (by omega))
              rw [show ((r.toNat : Nat) : Int) = r by omega] at this
              simp only [usedB, Bool.or_eq_true, beq_iff_eq] at this
              have hc := List.count_pos_iff.2 hr
              rw [met0_get h3]
              omega
          | some m =>
            rw [hmr] at hsp
            obtain ⟨⟨s1, s2⟩, s3, s4⟩ := hsp
            simp only
            rw [loopP_all m (fun v => v == 1 || v == -1) (impl_ProgramOk_l5 m) (fun k hk => by
              simp only [impl_ProgramOk_l5, ofNat_lt_true hk, if_true, getI_at hk, Option.bind_some, w64_nat hk (show m.length ≤ 1048576 by omega)]
              by_cases e1 : m[k] = 1
              · simp [e1]
              · by_cases e2 : m[k] = -1 <;> simp [e1, e2]) (by simp [impl_ProgramOk_l5])]
            have hfin : m.all (fun v => v == 1 || v == -1) = (List.range p.Nodes.length).all fun k => usedB (kc p.Nodes k + 1000 * (roots p).count (k : Int)) := by
              rw [range_count p.Nodes.length m _ s3, Bool.eq_iff_iff, List.all_eq_true, List.all_eq_true]
              have each : ∀ k, k < p.Nodes.length → ((m.getD k 0 == 1 || m.getD k 0 == -1) = true ↔ usedB (kc p.Nodes k + 1000 * (roots p).count (k : Int)) = true) := by
                intro k hk
                have hkc := kc_le h3 k
                rw [s4, met0_get h3]
                simp only [usedB, Bool.or_eq_true, beq_iff_eq]
                by_cases hm : (k : Int) ∈ roots p
                · rw [if_pos hm]
                  have hc := List.count_pos_iff.2 hm
                  have hc1 := List.nodup_iff_count.1 s1 (k : Int)
                  have := s2 _ hm
                  rw [Int.toNat_natCast, met0_get h3] at this
                  omega
                · rw [if_neg hm, List.count_eq_zero.2 hm]
                  omega
              constructor
              · intro h k hk; exact (each k (List.mem_range.1 hk)).1 (h k hk)
              · intro h k hk; exact (each k (List.mem_range.1 hk)).2 (h k hk)
            rw [hfin]
            cases (List.range p.Nodes.length).all fun k => usedB (kc p.Nodes k + 1000 * (roots p).count (k : Int)) <;> rfl
theorem spec_l1_step (p : GProgram) (hn : p.Nodes.length ≤ 300) (hp : p.Fns.length ≤ 8) (C : Int) (hC : 0 ≤ C) (hC2 : C ≤ 1000000) (m : List Int) (hm : Bd p.Nodes.length C m) (i : Nat) (hi : i < p.Fns.length) : spec_ProgramOk_l1 p (m, i) = some (if goodF p i = true then .inl (incs 1000 (rootsF p.Fns[i]) m, ((i + 1 : Nat) : Int)) else .inr (.inr false)) := by
  simp only [spec_ProgramOk_l1, ofNat_lt_true hi, if_true, spec_l04Fn_eq p i hi (show p.Nodes.length ≤ 1048576 by omega) (show p.Fns.length ≤ 1048576 by omega), Option.bind_some, getI_at hi]
  rw [← goodF_at hi]
  cases hg : goodF p i with
  | false => rfl
  | true =>
    simp only [Bool.not_true, Bool.false_eq_true, if_false, if_true]
    have hfb : fnB p p.Fns[i] = true := by rw [goodF_at hi, Bool.and_eq_true] at hg; exact hg.1
    obtain ⟨_, b0, b1, r1⟩ := fnB_roots hfb
    generalize p.Fns[i] = f at *
    have hgd : ∀ (m : List Int) (v : Int), m.length = p.Nodes.length → 0 ≤ v → v < p.Nodes.length → getI m v = some (m.getD v.toNat 0) := fun m v hm h0 h1 => by
      have hlt : v.toNat < m.length := by omega
      rw [getI_in h0 (by omega), List.getD_eq_getElem?_getD, List.getElem?_eq_getElem hlt]; rfl
    have g0 := hm.getD hC f.Body.toNat
    have hm1 := hm.set hC (show (0 : Int) ≤ 1000 by omega) f.Body.toNat
    have g1 := hm1.getD (by omega) f.Ret.toNat
    rw [hgd m f.Body hm.len b0 b1]
    simp only [Option.bind_some, bindS_def, w64 (n := m.getD f.Body.toNat 0 + 1000) (by omega) (by omega), w64_nat hi (show p.Fns.length ≤ 1048576 by omega)]
    unfold rootsF
    by_cases hr : f.Ret < 0
    · have hr' : ¬ f.Ret ≥ 0 := by omega
      rw [if_neg (by simpa using hr'), if_pos hr]
      rfl
    · have hr' : f.Ret ≥ 0 := by omega
      rw [if_pos (by simpa using hr'), if_neg hr, hgd _ f.Ret hm1.len (by omega) r1]
      simp only [Option.bind_some, bindS_def]
      rw [w64 (by omega) (by omega)]
      rfl
theorem spec_l1_eq (p : GProgram) (hn : p.Nodes.length ≤ 300) (hp : p.Fns.length ≤ 8) (m0 : List Int) (C : Int) (hC : 0 ≤ C) (hC2 : C ≤ 10000) (hm0 : Bd p.Nodes.length C m0) : loopP (spec_ProgramOk_l1 p) (m0, 0) = some (if (List.range p.Fns.length).all (goodF p) = true then .inl (incs 1000 (roots p) m0) else .inr false) := by
  obtain ⟨r, h1, h2⟩ := loopP_run (f := spec_ProgramOk_l1 p) (fun s : List Int × Int => ∃ i : Nat, s.2 = i ∧ i ≤ p.Fns.length ∧ (∀ j, j < i → goodF p j = true) ∧ s.1 = incs 1000 (rootsT p i) m0 ∧ Bd p.Nodes.length (C + 2000 * i) s.1) (fun s => p.Fns.length - s.2.toNat) (fun r => r = if (List.range p.Fns.length).all (goodF p) = true then .inl (incs 1000 (roots p) m0) else .inr false) (by
    rintro ⟨m, i⟩ ⟨i, rfl, hi, hg, hm, hb⟩
    simp only at hm hi hb
    by_cases hlt : i < p.Fns.length
    · have hst := spec_l1_step p hn hp (C + 2000 * i) (by omega) (by omega) m hb i hlt
      cases hgb : goodF p i with
      | false =>
        right
        refine ⟨.inr false, by rw [hst, hgb]; rfl, ?_⟩
        have : (List.range p.Fns.length).all (goodF p) = false := by
          rw [Bool.eq_false_iff]
          intro h
          rw [List.all_eq_true.1 h i (List.mem_range.2 hlt)] at hgb
          cases hgb
        rw [this]; rfl
      | true =>
        left
        refine ⟨_, by rw [hst, hgb, if_pos rfl], ⟨i + 1, rfl, by omega, fun j hj => ?_, ?_, ?_⟩, by simp only [Int.toNat_natCast]; omega⟩
        · by_cases e : j = i
          · subst e; exact hgb
          · exact hg j (by omega)
        · simp only
          rw [rootsT_succ p hlt, incs_append, ← hm]
        · have := Bd.incs (show (0 : Int) ≤ 1000 by omega) (rootsF p.Fns[i]) (by omega) hb
          refine this.mono ?_
          have : (rootsF p.Fns[i]).length ≤ 2 := by unfold rootsF; split <;> simp
          omega
    · right
      have : i = p.Fns.length := by omega
      subst this
      refine ⟨.inl m, by simp [spec_ProgramOk_l1], ?_⟩
      rw [if_pos (List.all_eq_true.2 fun j hj => hg j (List.mem_range.1 hj)), ← rootsT_all, hm]) (m0, 0) ⟨0, rfl, by omega, fun j hj => by omega, rfl, hm0.mono (by omega)⟩
  rw [h1, h2]
theorem spec_ProgramOk_eq (p : GProgram) (hn : p.Nodes.length ≤ 1048576) (hp : p.Fns.length ≤ 1048576) : spec_ProgramOk p = some (progB p) := by
  unfold spec_ProgramOk progB
  simp only [spec_in_eq, Option.bind_some, w64_pred hn]
  cases h1 : inB p.Nodes.length 1 300 with
  | false => rfl
  | true =>
    have h1' := inB_iff.1 h1
    cases h2 : inB p.Fns.length 1 8 with
    | false => rfl
    | true =>
      have h2' := inB_iff.1 h2
      have hc : ((p.Nodes.length : Int) - 1) = ((p.Nodes.length - 1 : Nat) : Int) := by omega
      simp only [Bool.not_true, Bool.false_eq_true, if_false, Bool.true_and, Option.bind_some]
      rw [hc, spec_Deeps_eq p.Nodes hn _ (by omega)]
      simp only [Option.bind_some, sdeeps_len]
      rw [show p.Nodes.length - 1 + 1 = p.Nodes.length by omega, w64_pred hn, hc, getI_nat, sdeeps_get p.Nodes (show p.Nodes.length - 1 < p.Nodes.length by omega), show p.Nodes.length - 1 + 1 = p.Nodes.length by omega]
      simp only [Option.bind_some]
      cases h3 : okU p.Nodes p.Nodes.length with
      | false => rfl
      | true =>
        have hpos := dval_pos p.Nodes (p.Nodes.length - 1)
        have hne : ¬ dval p.Nodes (p.Nodes.length - 1) = 0 := by omega
        simp only [if_true, Bool.true_and]
        rw [if_neg (by simpa using hne), spec_met p.Nodes h3 (by omega)]
        simp only [Option.bind_some]
        have hB : Bd p.Nodes.length 300 (met0 p.Nodes) := ⟨met0_len _, fun v hv => by
          obtain ⟨k, hk, rfl⟩ := List.mem_iff_getElem.1 hv
          have h := met0_get h3 k
          rw [List.getD_eq_getElem?_getD, List.getElem?_eq_getElem hk, Option.getD_some] at h
          have := kc_le h3 k
          omega⟩
        rw [spec_l1_eq p (by omega) (by omega) _ 300 (by omega) (by omega) hB]
        cases h4 : (List.range p.Fns.length).all (goodF p) with
        | false => rfl
        | true =>
          simp only [if_true, Option.bind_some, Bool.true_and]
          have hb := roots_bnd h4
          have hl : (incs 1000 (roots p) (met0 p.Nodes)).length = p.Nodes.length := by rw [incs_len, met0_len]
          have hval : ∀ k, (incs 1000 (roots p) (met0 p.Nodes)).getD k 0 = ((kc p.Nodes k + 1000 * (roots p).count (k : Int) : Nat) : Int) := by
            intro k
            rw [incs_get 1000 k _ _ (fun e he => by rw [met0_len]; exact hb e he), met0_get h3]
            omega
          generalize hmm : incs 1000 (roots p) (met0 p.Nodes) = m at *
          rw [loopP_all m (fun v => v == 1 || v == 1000) (spec_ProgramOk_l2 m) (fun k hk => by
            simp only [spec_ProgramOk_l2, ofNat_lt_true hk, if_true, getI_at hk, Option.bind_some, w64_nat hk (show m.length ≤ 1048576 by omega)]
            by_cases e1 : m[k] = 1
            · simp [e1]
            · by_cases e2 : m[k] = 1000 <;> simp [e1, e2]) (by simp [spec_ProgramOk_l2])]
          have hfin : m.all (fun v => v == 1 || v == 1000) = (List.range p.Nodes.length).all fun k => usedB (kc p.Nodes k + 1000 * (roots p).count (k : Int)) := by
            rw [range_count p.Nodes.length m _ hl]
            congr 1
            funext k
            rw [hval, Bool.eq_iff_iff]
            simp only [usedB, Bool.or_eq_true, beq_iff_eq]
            omega
          rw [hfin]
          cases (List.range p.Nodes.length).all fun k => usedB (kc p.Nodes k + 1000 * (roots p).count (k : Int)) <;> rfl
end Go.OM
set_option linter.unusedVariables false
set_option linter.unusedSimpArgs false
namespace Go.OM
theorem progB_iff {p : GProgram} (h : progB p = true) : 1 ≤ p.Nodes.length ∧ p.Nodes.length ≤ 300 ∧ 1 ≤ p.Fns.length ∧ p.Fns.length ≤ 8 ∧ okU p.Nodes p.Nodes.length = true := by
  unfold progB at h
  simp only [Bool.and_eq_true, inB_iff] at h
  obtain ⟨h1, h2, h3, _⟩ := h
  exact ⟨by omega, by omega, by omega, by omega, h3⟩
theorem kindCount_same : impl_KindCount = spec_KindCount := rfl
theorem kindCount_some (p : GProgram) (kind : Int) (hp : p.Nodes.length ≤ 1048576) : ∃ r, spec_KindCount p kind = some r := by
  obtain ⟨r, h1, _⟩ := loopP_run (f := spec_KindCount_l1 p kind) (fun s : Int × Int => ∃ k : Nat, s.2 = k ∧ k ≤ p.Nodes.length ∧ 0 ≤ s.1 ∧ s.1 ≤ k) (fun s => p.Nodes.length - s.2.toNat) (fun _ => True) (by
    rintro ⟨n, i⟩ ⟨k, hi, hk, h0, h1⟩
    simp only at hi h0 h1
    subst hi
    by_cases hlt : k < p.Nodes.length
    · left
      simp only [spec_KindCount_l1, ofNat_lt_true hlt, if_true, getI_at hlt, Option.bind_some, w64_nat hlt hp, w64 (n := n + 1) (by omega) (by omega)]
      split
      · exact ⟨_, rfl, ⟨k + 1, rfl, by omega, by simp only; omega, by simp only; omega⟩, by simp only [Int.toNat_natCast]; omega⟩
      · exact ⟨_, rfl, ⟨k + 1, rfl, by omega, by simp only; omega, by simp only; omega⟩, by simp only [Int.toNat_natCast]; omega⟩
    · right
      have hke : k = p.Nodes.length := by omega
      subst hke
      exact ⟨n, by simp [spec_KindCount_l1], trivial⟩) (0, 0) ⟨0, rfl, by omega, by simp, by simp⟩
  exact ⟨r, by unfold spec_KindCount; rw [h1]; rfl⟩
def cntK (nodes : List GNode) (q : Int → Bool) : Nat → Int
  | 0 => 0
  | n + 1 => cntK nodes q n + (match nodes[n]? with | some x => if q x.Kind = true then 1 else 0 | none => 0)
theorem cntK_bnd (nodes : List GNode) (q : Int → Bool) : ∀ n : Nat, 0 ≤ cntK nodes q n ∧ cntK nodes q n ≤ n
  | 0 => ⟨Int.le_refl _, Int.le_refl _⟩
  | n + 1 => by
    have := cntK_bnd nodes q n
    simp only [cntK]
    split
    · split <;> omega
    · omega
theorem cntK_succ {nodes : List GNode} (q : Int → Bool) {n : Nat} (h : n < nodes.length) : cntK nodes q (n + 1) = if q nodes[n].Kind = true then cntK nodes q n + 1 else cntK nodes q n := by
  simp only [cntK, List.getElem?_eq_getElem h]
  split <;> omega
def mD (nodes : List GNode) : Nat → Int
  | 0 => 0
  | n + 1 => if dval nodes n > mD nodes n then dval nodes n else mD nodes n
theorem step_not_value {k : Int} (h : stepKB k = true) : valueB k = false := by
  unfold stepKB at h
  unfold valueB
  have := inB_iff.1 h
  exact inB_false.2 (by omega)
theorem Measured_main (p : GProgram) (hn : p.Nodes.length ≤ 1048576) (hp : p.Fns.length ≤ 1048576) : ∃ m : GMeasure, impl_Measured p = some m ∧ spec_Measured p = some m := by
  unfold impl_Measured spec_Measured
  rw [impl_ProgramOk_eq p hn hp, spec_ProgramOk_eq p hn hp, kindCount_same]
  simp only [Option.bind_some]
  cases hok : progB p with
  | false => exact ⟨_, rfl, rfl⟩
  | true =>
    obtain ⟨b1, b2, b3, b4, hu⟩ := progB_iff hok
    simp only [Bool.not_true, Bool.false_eq_true, if_false]
    obtain ⟨k20, e20⟩ := kindCount_some p 20 hn
    obtain ⟨k13, e13⟩ := kindCount_some p 13 hn
    obtain ⟨k8, e8⟩ := kindCount_some p 8 hn
    obtain ⟨k5, e5⟩ := kindCount_some p 5 hn
    obtain ⟨k6, e6⟩ := kindCount_some p 6 hn
    rw [e20, e13, e8, e5, e6]
    simp only [Option.bind_some]
    have hI : loopP (impl_Measured_l1 p) (0, (⟨(p.Fns.length : Int), (p.Nodes.length : Int), 0, 0, 0, 0, 0, 0, 0⟩ : GMeasure)) = some ⟨(p.Fns.length : Int), (p.Nodes.length : Int), cntK p.Nodes stepKB p.Nodes.length, cntK p.Nodes valueB p.Nodes.length, 0, 0, 0, 0, 0⟩ := by
      obtain ⟨r, h1, h2⟩ := loopP_run (f := impl_Measured_l1 p) (fun s : Int × GMeasure => ∃ k : Nat, s.1 = k ∧ k ≤ p.Nodes.length ∧ s.2 = ⟨(p.Fns.length : Int), (p.Nodes.length : Int), cntK p.Nodes stepKB k, cntK p.Nodes valueB k, 0, 0, 0, 0, 0⟩) (fun s => p.Nodes.length - s.1.toNat) (fun r => r = ⟨(p.Fns.length : Int), (p.Nodes.length : Int), cntK p.Nodes stepKB p.Nodes.length, cntK p.Nodes valueB p.Nodes.length, 0, 0, 0, 0, 0⟩) (by
        rintro ⟨i, m⟩ ⟨k, rfl, hk, hm⟩
        simp only at hm hk
        subst hm
        by_cases hlt : k < p.Nodes.length
        · left
          have c1 := cntK_bnd p.Nodes stepKB k
          have c2 := cntK_bnd p.Nodes valueB k
          have s1 := cntK_succ stepKB hlt
          have s2 := cntK_succ valueB hlt
          refine ⟨(((k + 1 : Nat) : Int), (⟨(p.Fns.length : Int), (p.Nodes.length : Int), cntK p.Nodes stepKB (k + 1), cntK p.Nodes valueB (k + 1), 0, 0, 0, 0, 0⟩ : GMeasure)), ?_, ⟨k + 1, rfl, by omega, rfl⟩, by simp only [Int.toNat_natCast]; omega⟩
          simp only [impl_Measured_l1, ofNat_lt_true hlt, if_true, getI_at hlt, Option.bind_some, impl_isStep_eq, impl_isValue_eq, w64_nat hlt hn, w64 (n := cntK p.Nodes stepKB k + 1) (by omega) (by omega), w64 (n := cntK p.Nodes valueB k + 1) (by omega) (by omega)]
          rw [s1, s2]
          cases hs : stepKB p.Nodes[k].Kind with
          | true => rw [step_not_value hs]; rfl
          | false => cases valueB p.Nodes[k].Kind <;> rfl
        · right
          have : k = p.Nodes.length := by omega
          subst this
          exact ⟨_, by simp [impl_Measured_l1], rfl⟩) (0, _) ⟨0, rfl, by omega, rfl⟩
      exact h1.trans (congrArg some h2)
    have hI2 : ∀ F N S V B L W D : Int, loopP (impl_Measured_l2 (deeps p.Nodes p.Nodes.length)) (0, (⟨F, N, S, V, B, L, W, D, 0⟩ : GMeasure)) = some ⟨F, N, S, V, B, L, W, D, mD p.Nodes p.Nodes.length⟩ := by
      intro F N S V B L W D
      obtain ⟨r, h1, h2⟩ := loopP_run (f := impl_Measured_l2 (deeps p.Nodes p.Nodes.length)) (fun s : Int × GMeasure => ∃ k : Nat, s.1 = k ∧ k ≤ p.Nodes.length ∧ s.2 = ⟨F, N, S, V, B, L, W, D, mD p.Nodes k⟩) (fun s => p.Nodes.length - s.1.toNat) (fun r => r = ⟨F, N, S, V, B, L, W, D, mD p.Nodes p.Nodes.length⟩) (by
        rintro ⟨i, m⟩ ⟨k, rfl, hk, hm⟩
        simp only at hm hk
        subst hm
        by_cases hlt : k < p.Nodes.length
        · left
          refine ⟨(((k + 1 : Nat) : Int), (⟨F, N, S, V, B, L, W, D, mD p.Nodes (k + 1)⟩ : GMeasure)), ?_, ⟨k + 1, rfl, by omega, rfl⟩, by simp only [Int.toNat_natCast]; omega⟩
          simp only [impl_Measured_l2, deeps_len, ofNat_lt_true hlt, if_true, getI_nat, deeps_get p.Nodes _ k hlt, Option.bind_some, w64_nat hlt hn]
          rfl
        · right
          have : k = p.Nodes.length := by omega
          subst this
          exact ⟨_, by simp [impl_Measured_l2, deeps_len], rfl⟩) (0, _) ⟨0, rfl, by omega, rfl⟩
      exact h1.trans (congrArg some h2)
    have hS : ∀ B L W D : Int, loopP (spec_Measured_l1 p) (0, (⟨(p.Fns.length : Int), (p.Nodes.length : Int), 0, 0, B, L, W, D, 0⟩ : GMeasure)) = some ⟨(p.Fns.length : Int), (p.Nodes.length : Int), cntK p.Nodes stepKB p.Nodes.length, cntK p.Nodes valueB p.Nodes.length, B, L, W, D, mD p.Nodes p.Nodes.length⟩ := by
      intro B L W D
      obtain ⟨r, h1, h2⟩ := loopP_run (f := spec_Measured_l1 p) (fun s : Int × GMeasure => ∃ k : Nat, s.1 = k ∧ k ≤ p.Nodes.length ∧ s.2 = ⟨(p.Fns.length : Int), (p.Nodes.length : Int), cntK p.Nodes stepKB k, cntK p.Nodes valueB k, B, L, W, D, mD p.Nodes k⟩) (fun s => p.Nodes.length - s.1.toNat) (fun r => r = ⟨(p.Fns.length : Int), (p.Nodes.length : Int), cntK p.Nodes stepKB p.Nodes.length, cntK p.Nodes valueB p.Nodes.length, B, L, W, D, mD p.Nodes p.Nodes.length⟩) (by
        rintro ⟨i, m⟩ ⟨k, rfl, hk, hm⟩
        simp only at hm hk
        subst hm
        by_cases hlt : k < p.Nodes.length
        · left
          have c1 := cntK_bnd p.Nodes stepKB k
          have c2 := cntK_bnd p.Nodes valueB k
          have s1 := cntK_succ stepKB hlt
          have s2 := cntK_succ valueB hlt
          have hd : deepB p.Nodes (k : Int) = dval p.Nodes k := by
            unfold deepB
            rw [if_pos ⟨by omega, by omega, okU_mono (by simp only [Int.toNat_natCast]; omega) hu⟩, Int.toNat_natCast]
          refine ⟨(((k + 1 : Nat) : Int), (⟨(p.Fns.length : Int), (p.Nodes.length : Int), cntK p.Nodes stepKB (k + 1), cntK p.Nodes valueB (k + 1), B, L, W, D, mD p.Nodes (k + 1)⟩ : GMeasure)), ?_, ⟨k + 1, rfl, by omega, rfl⟩, by simp only [Int.toNat_natCast]; omega⟩
          simp only [spec_Measured_l1, ofNat_lt_true hlt, if_true, getI_at hlt, Option.bind_some, spec_l04Value_eq, spec_l04Statement_eq, spec_DeepOf_eq p.Nodes hn, hd, w64_nat hlt hn, w64 (n := cntK p.Nodes stepKB k + 1) (by omega) (by omega), w64 (n := cntK p.Nodes valueB k + 1) (by omega) (by omega)]
          rw [s1, s2]
          have ws := w64 (n := cntK p.Nodes stepKB k + 1) (by omega) (by omega)
          have wv := w64 (n := cntK p.Nodes valueB k + 1) (by omega) (by omega)
          simp only [mD]
          by_cases hgt : dval p.Nodes k > mD p.Nodes k
          · rw [if_pos hgt]
            cases hs : stepKB p.Nodes[k].Kind <;> cases hv : valueB p.Nodes[k].Kind <;> simp [hgt, ws, wv]
          · rw [if_neg hgt]
            cases hs : stepKB p.Nodes[k].Kind <;> cases hv : valueB p.Nodes[k].Kind <;> simp [hgt, ws, wv]
        · right
          have : k = p.Nodes.length := by omega
          subst this
          exact ⟨_, by simp [spec_Measured_l1], rfl⟩) (0, _) ⟨0, rfl, by omega, rfl⟩
      exact h1.trans (congrArg some h2)
    have hdep : impl_depths p.Nodes (IntKind.wrap .i64 ((p.Nodes.length : Int) - 1)) = some (deeps p.Nodes p.Nodes.length, true) := by
      rw [w64_pred hn, impl_depths_eq p.Nodes hn]
      have e : ((p.Nodes.length : Int) - 1).toNat + 1 = p.Nodes.length := by omega
      rw [e, if_pos ⟨by omega, by omega, hu⟩]
    rw [hI]
    simp only [Option.bind_some]
    rw [hdep]
    simp only [Option.bind_some]
    rw [hI2, hS]
    exact ⟨_, rfl, rfl⟩
theorem law_Measured (p : GProgram) (hw : GProgram.le maxLen p) : laws_FnExactMeasured p = some true := by
  unfold laws_FnExactMeasured
  obtain ⟨r, h1, h2, h3⟩ := laws_szProgram_p p hw 1048576 (by omega) (by omega)
  rw [h1]
  simp only [Option.bind_some]
  by_cases hr : r < 0
  · simp [hr]
  · have hp := h3 (by omega)
    obtain ⟨m, v1, v2⟩ := Measured_main p hp.1.1 hp.2.1
    simp [hr, laws_toProgram_p p hp, v1, v2, laws_eqMeasure_p m m trivial trivial, laws_eqProgram_p p p hp hp]
end Go.OM
