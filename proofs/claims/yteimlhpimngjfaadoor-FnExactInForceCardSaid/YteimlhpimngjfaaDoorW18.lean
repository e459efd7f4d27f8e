import Derived.Test.YteimlhpimngjfaaDoorW0
import Derived.Test.YteimlhpimngjfaaDoorW1
import Derived.Test.YteimlhpimngjfaaDoorW11
import Derived.Test.YteimlhpimngjfaaDoorW12
import Derived.Test.YteimlhpimngjfaaDoorW16
import Derived.Test.YteimlhpimngjfaaDoorW17
import Derived.Test.YteimlhpimngjfaaDoorW8
set_option linter.unusedVariables false
set_option linter.unusedSimpArgs false
set_option linter.unusedVariables false
set_option linter.unusedSimpArgs false
set_option maxHeartbeats 8000000
set_option maxRecDepth 100000
namespace Go.Proofs.T
open Go.OM
theorem res5 : Tryd.f5.results.toList = [.tmp 4] := rfl
theorem ent5 : Enters E.P 5 := eO Tryd.func5 (by simp [Tryd.f5]) rfl
instance c5_ (a5 : GCode) (a7 : Int) {r0 : Bool} : Con E 5 (laws_FnExactInForce a5 a7 = some r0) [.val (GCode.enc false a5), .val (vi a7)] [vb r0] [] := Con.mk fun h => by
 refine oB Tryd.func5 rfl (by simp [Tryd.f5]) fun C (q : C.N = 74) hP => ?_
 have y := pinB0 hP
 unfold laws_FnExactInForce at h
 iterate 10 first|refine wps_q q ?_|apply wN|refine SWp.zS y ?_
 obtain ⟨r3, c2, h⟩ := bS h
 refine wps_c [(.take, .tmp 13), (.take, .tmp 14)] q (Ent.ok (E := E) (f := 6)) (Con.ok c2) ?_
 refine wps_q q ?_
 apply wN
 refine SWp.seq ?_
 refine SWp.zS y ?_
 iterate 2 refine wps_q q ?_
 apply wN
 refine SWp.cI h (fun e3 h => ?_) fun e4 h => ?_
 ·refine SWp.zS y ?_
  refine wps_q q ?_
  apply wN
  cases h
  refine SWp.ret ?_
  simp [thenS, iB, res5]
 refine SWp.skip ?_
 refine SWp.zS y ?_
 refine wps_q q ?_
 obtain ⟨r7, c3, h⟩ := bS h
 refine wps_c [(.take, .tmp 18)] q (Ent.ok (E := E) (f := 8)) (Con.ok c3) ?_
 refine wps_q q ?_
 obtain ⟨r9, a8, h⟩ := bS h
 refine wps_c [(.bor, .tmp 19), (.take, .tmp 20)] q ent17 (Con.ok a8) ?_
 iterate 4 first|refine wps_q q ?_|apply wN|refine SWp.zS y ?_
 obtain ⟨e5, a9, h⟩ := bS h
 refine wps_c [(.take, .tmp 22)] q (Ent.ok (E := E) (f := 8)) (Con.ok a9) ?_
 iterate 6 first|refine wps_q q ?_|apply wN|refine SWp.zS y ?_
 obtain ⟨c4, b0, h⟩ := bS h
 refine wps_c [(.bor, .tmp 24), (.take, .tmp 25)] q ent18 (Con.ok b0) ?_
 refine wps_q q ?_
 apply wN
 refine SWp.seq ?_
 refine SWp.zS y ?_
 iterate 2 refine wps_q q ?_
 obtain ⟨e6, b1, h⟩ := bS h
 refine wps_c [(.bor, .tmp 27), (.bor, .tmp 28)] q (Ent.ok (E := E) (f := 19)) (Con.ok b1) ?_
 refine wps_q q ?_
 apply wN
 refine SWp.cI h (fun c5 h => ?_) fun c6 h => ?_
 ·refine SWp.zS y ?_
  refine wps_q q ?_
  apply wN
  cases h
  refine SWp.ret ?_
  simp [thenS, iB, res5]
 refine SWp.skip ?_
 refine SWp.seq ?_
 refine SWp.seq ?_
 obtain ⟨c7, b2, h⟩ := bS h
 refine SWp.dT rfl (y _ rfl) (en 31 [.al (.box 7) 0 [] (some 4), .t (GCode.enc false a5), .t (GCode.enc true c7)]) [[], [], [1], [0, 1, 2], rg 0 4] (by simp) (by simp) (by simp [look]) rfl rfl rfl ?_ fun K u => ?_
 ·refine ⟨?_, ?_, ?_, trivial⟩
  all_goals (intro τ hbx hb hd hf K u; try simp [vsAt] at hd; simp [vsAt] at hf; first | (refine wC rfl fun K' v => ?_; simp [q, hbx, hb, hd, hf]; exact v _ (wN (u _ (by simp [vsAt, hbx])))) | (refine wL [(.take, .tmp 32)] rfl rfl (Ent.ok (E := E) (f := 8)) (Con.ok b2) fun K' v => ?_; simp [q, hbx, hb, hd, hf]; exact v _ (wN (u _ (by simp [vsAt, hbx])))))
 obtain ⟨e7, b3, h⟩ := bS h
 refine wps_c [(.bor, .tmp 31), (.bor, .tmp 33)] q (Ent.ok (E := E) (f := 11)) (Con.ok b3) ?_
 refine wps_q q ?_
 apply wN; apply u
 refine SWp.cI h (fun c8 h => ?_) fun c9 h => ?_
 ·refine SWp.zS y ?_
  refine wps_q q ?_
  apply wN
  cases h
  refine SWp.ret ?_
  simp [thenS, iB, res5]
 iterate 7 first|refine wps_q q ?_|apply wN|refine SWp.zS y ?_|refine SWp.skip ?_
 obtain ⟨⟨e8, e9⟩, b4, h⟩ := bS h
 try dsimp only at h
 refine wps_callIO rfl ent12 (laws_markCode_ok _ _ b4) fun K w => ?_; simp [q]; apply w
 refine wps_q q ?_
 apply wN
 refine SWp.seq ?_
 obtain ⟨d0, a1, h⟩ := bS h
 refine SWp.seqRC rfl (y _ rfl) [1, 2, 6, 8, 46] [2] (fun _ : Unit => ⟨[(1, .t (vi a7)), (2, .ref (.box 2) 0 []), (6, .t (.sl true 1 (List.map vb r9))), (8, .t (.sl true 1 (List.map vb c4))), (46, .t (vb d0))], [(2, [vs a5.Name, vi a5.Params, .sl false 1 (List.map vi a5.Locals), .sl false 7 (List.map (GIns.enc false) a5.Words)])]⟩) (fun _ => True) (fun _ _ => ?_) fun g0 a6 => ?_
 rotate_left
 ·refine wps_q q ?_
  iterate 2 refine wps_q q ?_
  rcases ite_or a1 with ⟨a4, a1⟩ | ⟨a3, a1⟩
  ·have a2 := a4
   try simp at a2
   iterate 4 (refine wO fun K w => ?_; simp [q, a4, a2]; apply w)
   refine wps_q q ?_ rfl (by simp [a4, a2]; rfl)
   refine wN ?_
   cases a1
   exact a6 _ () [] trivial (by simp [q, a4, a2])
  have a0 := a3
  try simp at a0
  iterate 2 (refine wps_q q ?_ rfl (by simp [a3, a0]; rfl))
  obtain ⟨g1, b5, a1⟩ := bS a1
  refine wps_c [(.bor, .tmp 42), (.bor, .tmp 43)] q (Ent.ok (E := E) (f := 19)) (Con.ok b5) ?_ rfl rfl (by simp [a3, a0]; rfl)
  iterate 2 (refine wps_q q ?_ rfl (by simp [a3, a0]; rfl))
  refine wN ?_
  cases a1
  exact a6 _ () [] trivial (by simp [q, a3, a0])
 refine SWp.cI h (fun d1 h => ?_) fun d2 h => ?_
 ·refine SWp.zS y ?_
  refine wps_q q ?_
  apply wN
  cases h
  refine SWp.ret ?_
  simp [thenS, iB, res5]
 iterate 7 first|refine wps_q q ?_|apply wN|refine SWp.zS y ?_|refine SWp.skip ?_
 obtain ⟨⟨g2, g3⟩, b6, h⟩ := bS h
 try dsimp only at h
 refine wps_callIO rfl ent20 (laws_markBoolS_ok _ _ b6) fun K w => ?_; simp [q]; apply w
 iterate 8 first|refine wps_q q ?_|apply wN|refine SWp.zS y ?_
 obtain ⟨g4, b7, h⟩ := bS h
 refine wps_c [(.bor, .tmp 50), (.take, .tmp 51)] q (Ent.ok (E := E) (f := 21)) (Con.ok b7) ?_
 refine wps_q q ?_
 apply wN
 refine SWp.seq ?_
 refine SWp.zS y ?_
 iterate 2 refine wps_q q ?_
 apply wN
 refine SWp.cI h (fun d3 h => ?_) fun d4 h => ?_
 ·refine SWp.zS y ?_
  refine wps_q q ?_
  apply wN
  cases h
  refine SWp.ret ?_
  simp [thenS, iB, res5]
 refine SWp.skip ?_
 refine SWp.seq ?_
 refine SWp.zS y ?_
 iterate 3 refine wps_q q ?_
 apply wN
 refine SWp.cI h (fun d5 h => ?_) fun d6 h => ?_
 ·refine SWp.zS y ?_
  refine wps_q q ?_
  apply wN
  cases h
  refine SWp.ret ?_
  simp [thenS, iB, res5]
 refine SWp.skip ?_
 refine SWp.zS y ?_
 refine wps_q q ?_
 obtain ⟨g5, b8, h⟩ := bS h
 refine wps_c [(.take, .tmp 58)] q (Ent.ok (E := E) (f := 8)) (Con.ok b8) ?_
 refine wps_q q ?_
 obtain ⟨g6, b9, h⟩ := bS h
 refine wps_c [(.bor, .tmp 59), (.take, .tmp 60)] q ent18 (Con.ok b9) ?_
 refine wps_q q ?_
 apply wN
 refine SWp.seq ?_
 refine SWp.zS y ?_
 iterate 2 refine wps_q q ?_
 obtain ⟨g7, c0, h⟩ := bS h
 refine wps_c [(.bor, .tmp 62), (.bor, .tmp 63)] q (Ent.ok (E := E) (f := 19)) (Con.ok c0) ?_
 refine wps_q q ?_
 apply wN
 refine SWp.cI h (fun d7 h => ?_) fun d8 h => ?_
 ·refine SWp.zS y ?_
  refine wps_q q ?_
  apply wN
  cases h
  refine SWp.ret ?_
  simp [thenS, iB, res5]
 iterate 7 first|refine wps_q q ?_|apply wN|refine SWp.zS y ?_|refine SWp.skip ?_
 obtain ⟨g8, c1, h⟩ := bS h
 refine wps_c [(.bor, .tmp 66), (.take, .tmp 67)] q (Ent.ok (E := E) (f := 21)) (Con.ok c1) ?_
 refine wps_q q ?_
 apply wN
 refine SWp.seq ?_
 refine SWp.zS y ?_
 iterate 2 refine wps_q q ?_
 apply wN
 refine SWp.cI h (fun d9 h => ?_) fun e0 h => ?_
 ·refine SWp.zS y ?_
  refine wps_q q ?_
  apply wN
  cases h
  refine SWp.ret ?_
  simp [thenS, iB, res5]
 refine SWp.skip ?_
 refine SWp.seq ?_
 refine SWp.zS y ?_
 iterate 3 refine wps_q q ?_
 apply wN
 refine SWp.cI h (fun e1 h => ?_) fun e2 h => ?_
 ·refine SWp.zS y ?_
  refine wps_q q ?_
  apply wN
  cases h
  refine SWp.ret ?_
  simp [thenS, iB, res5]
 refine SWp.skip ?_
 refine SWp.zS y ?_
 refine wps_q q ?_
 apply wN
 cases h
 refine SWp.ret ?_
 simp [thenS, iB, res5]
instance e5_ : Ent E 5 := ⟨ent5⟩
theorem laws_FnExactInForce_ok (a0 : GCode) (a1 : Int) {r0 : Bool} (h : laws_FnExactInForce a0 a1 = some r0) : Ok E 5 [.val (GCode.enc false a0), .val (vi a1)] [vb r0] [] := Con.ok h
end Go.Proofs.T
