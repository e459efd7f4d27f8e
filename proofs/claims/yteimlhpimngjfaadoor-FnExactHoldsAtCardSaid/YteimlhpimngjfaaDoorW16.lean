import Derived.Test.YteimlhpimngjfaaDoorW10
import Derived.Test.YteimlhpimngjfaaDoorW11
import Derived.Test.YteimlhpimngjfaaDoorW14
import Derived.Test.YteimlhpimngjfaaDoorW15
import Derived.Test.YteimlhpimngjfaaDoorW6
import Derived.Test.YteimlhpimngjfaaDoorW7
set_option linter.unusedVariables false
set_option linter.unusedSimpArgs false
set_option linter.unusedVariables false
set_option linter.unusedSimpArgs false
set_option maxHeartbeats 8000000
set_option maxRecDepth 100000
namespace Go.Proofs.T
open Go.OM
theorem res3 : Tryd.f3.results.toList = [.tmp 2] := rfl
theorem ent3 : Enters E.P 3 := eO Tryd.func3 (by simp [Tryd.f3]) rfl
instance c3_ (a5 : GCode) {r0 : Bool} : Con E 3 (laws_FnExactHoldsAt a5 = some r0) [.val (GCode.enc false a5)] [vb r0] [] := Con.mk fun h => by
 refine oB Tryd.func3 rfl (by simp [Tryd.f3]) fun C (q : C.N = 69) hP => ?_
 have y := pinB0 hP
 unfold laws_FnExactHoldsAt at h
 iterate 10 first|refine wps_q q ?_|apply wN|refine SWp.zS y ?_
 obtain ⟨r2, c0, h⟩ := bS h
 refine wps_c [(.take, .tmp 11), (.take, .tmp 12)] q (Ent.ok (E := E) (f := 6)) (Con.ok c0) ?_
 refine wps_q q ?_
 apply wN
 refine SWp.seq ?_
 refine SWp.zS y ?_
 iterate 2 refine wps_q q ?_
 apply wN
 refine SWp.cI h (fun e2 h => ?_) fun e3 h => ?_
 ·refine SWp.zS y ?_
  refine wps_q q ?_
  apply wN
  cases h
  refine SWp.ret ?_
  simp [thenS, iB, res3]
 refine SWp.skip ?_
 refine SWp.zS y ?_
 refine wps_q q ?_
 obtain ⟨r6, c1, h⟩ := bS h
 refine wps_c [(.take, .tmp 16)] q (Ent.ok (E := E) (f := 8)) (Con.ok c1) ?_
 obtain ⟨r8, c2, h⟩ := bS h
 refine wps_c [(.bor, .tmp 17)] q (Ent.ok (E := E) (f := 7)) (Con.ok c2) ?_
 iterate 4 first|refine wps_q q ?_|apply wN|refine SWp.zS y ?_
 obtain ⟨e4, a7, h⟩ := bS h
 refine wps_c [(.take, .tmp 19)] q (Ent.ok (E := E) (f := 8)) (Con.ok a7) ?_
 iterate 5 first|refine wps_q q ?_|apply wN|refine SWp.zS y ?_
 obtain ⟨c3, a8, h⟩ := bS h
 refine wps_c [(.bor, .tmp 21)] q ent9 (Con.ok a8) ?_
 refine wps_q q ?_
 apply wN
 refine SWp.seq ?_
 refine SWp.zS y ?_
 iterate 2 refine wps_q q ?_
 obtain ⟨e5, a9, h⟩ := bS h
 refine wps_c [(.bor, .tmp 23), (.bor, .tmp 24)] q (Ent.ok (E := E) (f := 10)) (Con.ok a9) ?_
 refine wps_q q ?_
 apply wN
 refine SWp.cI h (fun c4 h => ?_) fun c5 h => ?_
 ·refine SWp.zS y ?_
  refine wps_q q ?_
  apply wN
  cases h
  refine SWp.ret ?_
  simp [thenS, iB, res3]
 refine SWp.skip ?_
 refine SWp.seq ?_
 refine SWp.seq ?_
 obtain ⟨c6, b0, h⟩ := bS h
 refine SWp.dT rfl (y _ rfl) (en 27 [.al (.box 5) 0 [] (some 4), .t (GCode.enc false a5), .t (GCode.enc true c6)]) [[], [], [1], [0, 1, 2], rg 0 4] (by simp) (by simp) (by simp [look]) rfl rfl rfl ?_ fun K u => ?_
 ·refine ⟨?_, ?_, ?_, trivial⟩
  all_goals (intro τ hbx hb hd hf K u; try simp [vsAt] at hd; simp [vsAt] at hf; first | (refine wC rfl fun K' v => ?_; simp [q, hbx, hb, hd, hf]; exact v _ (wN (u _ (by simp [vsAt, hbx])))) | (refine wL [(.take, .tmp 28)] rfl rfl (Ent.ok (E := E) (f := 8)) (Con.ok b0) fun K' v => ?_; simp [q, hbx, hb, hd, hf]; exact v _ (wN (u _ (by simp [vsAt, hbx])))))
 obtain ⟨e6, b1, h⟩ := bS h
 refine wps_c [(.bor, .tmp 27), (.bor, .tmp 29)] q (Ent.ok (E := E) (f := 11)) (Con.ok b1) ?_
 refine wps_q q ?_
 apply wN; apply u
 refine SWp.cI h (fun c7 h => ?_) fun c8 h => ?_
 ·refine SWp.zS y ?_
  refine wps_q q ?_
  apply wN
  cases h
  refine SWp.ret ?_
  simp [thenS, iB, res3]
 iterate 7 first|refine wps_q q ?_|apply wN|refine SWp.zS y ?_|refine SWp.skip ?_
 obtain ⟨⟨e7, e8⟩, b2, h⟩ := bS h
 try dsimp only at h
 refine wps_callIO rfl ent12 (laws_markCode_ok _ _ b2) fun K w => ?_; simp [q]; apply w
 refine wps_q q ?_
 apply wN
 refine SWp.seq ?_
 obtain ⟨c9, a1, h⟩ := bS h
 refine SWp.seqRC rfl (y _ rfl) [1, 4, 6, 42] [1] (fun _ : Unit => ⟨[(1, .ref (.box 1) 0 []), (4, .t (.sl true 1 (List.map (eSl true 1 (eSl true 1 vb)) r8))), (6, .t (.sl true 1 (List.map (eSl true 1 (eSl true 1 vb)) c3))), (42, .t (vb c9))], [(1, [vs a5.Name, vi a5.Params, .sl false 1 (List.map vi a5.Locals), .sl false 7 (List.map (GIns.enc false) a5.Words)])]⟩) (fun _ => True) (fun _ _ => ?_) fun e9 a6 => ?_
 rotate_left
 ·refine wps_q q ?_
  iterate 2 refine wps_q q ?_
  rcases ite_or a1 with ⟨a4, a1⟩ | ⟨a3, a1⟩
  ·have a2 := a4
   try simp at a2
   iterate 4 (refine wO fun K w => ?_; simp [q, a4, a2]; apply w)
   refine wps_q q ?_ rfl (by simp [a4, a2]; rfl)
   refine wN ?_
   cases a1
   exact a6 _ () [] trivial (by simp [q, a4, a2])
  have a0 := a3
  try simp at a0
  iterate 2 (refine wps_q q ?_ rfl (by simp [a3, a0]; rfl))
  obtain ⟨g0, b3, a1⟩ := bS a1
  refine wps_c [(.bor, .tmp 38), (.bor, .tmp 39)] q (Ent.ok (E := E) (f := 10)) (Con.ok b3) ?_ rfl rfl (by simp [a3, a0]; rfl)
  iterate 2 (refine wps_q q ?_ rfl (by simp [a3, a0]; rfl))
  refine wN ?_
  cases a1
  exact a6 _ () [] trivial (by simp [q, a3, a0])
 refine SWp.cI h (fun d0 h => ?_) fun d1 h => ?_
 ·refine SWp.zS y ?_
  refine wps_q q ?_
  apply wN
  cases h
  refine SWp.ret ?_
  simp [thenS, iB, res3]
 iterate 7 first|refine wps_q q ?_|apply wN|refine SWp.zS y ?_|refine SWp.skip ?_
 obtain ⟨⟨g1, g2⟩, b4, h⟩ := bS h
 try dsimp only at h
 refine wps_callIO rfl ent13 (laws_markBoolSSS_ok _ _ b4) fun K w => ?_; simp [q]; apply w
 iterate 8 first|refine wps_q q ?_|apply wN|refine SWp.zS y ?_
 obtain ⟨g3, b5, h⟩ := bS h
 refine wps_c [(.bor, .tmp 46), (.take, .tmp 47)] q (Ent.ok (E := E) (f := 14)) (Con.ok b5) ?_
 refine wps_q q ?_
 apply wN
 refine SWp.seq ?_
 refine SWp.zS y ?_
 iterate 2 refine wps_q q ?_
 apply wN
 refine SWp.cI h (fun d2 h => ?_) fun d3 h => ?_
 ·refine SWp.zS y ?_
  refine wps_q q ?_
  apply wN
  cases h
  refine SWp.ret ?_
  simp [thenS, iB, res3]
 refine SWp.skip ?_
 refine SWp.seq ?_
 refine SWp.zS y ?_
 iterate 3 refine wps_q q ?_
 apply wN
 refine SWp.cI h (fun d4 h => ?_) fun d5 h => ?_
 ·refine SWp.zS y ?_
  refine wps_q q ?_
  apply wN
  cases h
  refine SWp.ret ?_
  simp [thenS, iB, res3]
 refine SWp.skip ?_
 refine SWp.zS y ?_
 refine wps_q q ?_
 obtain ⟨g4, b6, h⟩ := bS h
 refine wps_c [(.take, .tmp 54)] q (Ent.ok (E := E) (f := 8)) (Con.ok b6) ?_
 obtain ⟨g5, b7, h⟩ := bS h
 refine wps_c [(.bor, .tmp 55)] q ent9 (Con.ok b7) ?_
 refine wps_q q ?_
 apply wN
 refine SWp.seq ?_
 refine SWp.zS y ?_
 iterate 2 refine wps_q q ?_
 obtain ⟨g6, b8, h⟩ := bS h
 refine wps_c [(.bor, .tmp 57), (.bor, .tmp 58)] q (Ent.ok (E := E) (f := 10)) (Con.ok b8) ?_
 refine wps_q q ?_
 apply wN
 refine SWp.cI h (fun d6 h => ?_) fun d7 h => ?_
 ·refine SWp.zS y ?_
  refine wps_q q ?_
  apply wN
  cases h
  refine SWp.ret ?_
  simp [thenS, iB, res3]
 iterate 7 first|refine wps_q q ?_|apply wN|refine SWp.zS y ?_|refine SWp.skip ?_
 obtain ⟨g7, b9, h⟩ := bS h
 refine wps_c [(.bor, .tmp 61), (.take, .tmp 62)] q (Ent.ok (E := E) (f := 14)) (Con.ok b9) ?_
 refine wps_q q ?_
 apply wN
 refine SWp.seq ?_
 refine SWp.zS y ?_
 iterate 2 refine wps_q q ?_
 apply wN
 refine SWp.cI h (fun d8 h => ?_) fun d9 h => ?_
 ·refine SWp.zS y ?_
  refine wps_q q ?_
  apply wN
  cases h
  refine SWp.ret ?_
  simp [thenS, iB, res3]
 refine SWp.skip ?_
 refine SWp.seq ?_
 refine SWp.zS y ?_
 iterate 3 refine wps_q q ?_
 apply wN
 refine SWp.cI h (fun e0 h => ?_) fun e1 h => ?_
 ·refine SWp.zS y ?_
  refine wps_q q ?_
  apply wN
  cases h
  refine SWp.ret ?_
  simp [thenS, iB, res3]
 refine SWp.skip ?_
 refine SWp.zS y ?_
 refine wps_q q ?_
 apply wN
 cases h
 refine SWp.ret ?_
 simp [thenS, iB, res3]
instance e3_ : Ent E 3 := ⟨ent3⟩
theorem laws_FnExactHoldsAt_ok (a0 : GCode) {r0 : Bool} (h : laws_FnExactHoldsAt a0 = some r0) : Ok E 3 [.val (GCode.enc false a0)] [vb r0] [] := Con.ok h
end Go.Proofs.T
