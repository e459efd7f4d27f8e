import Derived.Test.YteimlhpimngjfaaDoorW0
import Derived.Test.YteimlhpimngjfaaDoorW1
import Derived.Test.YteimlhpimngjfaaDoorW13
import Derived.Test.YteimlhpimngjfaaDoorW14
import Derived.Test.YteimlhpimngjfaaDoorW15
set_option linter.unusedVariables false
set_option linter.unusedSimpArgs false
set_option linter.unusedVariables false
set_option linter.unusedSimpArgs false
set_option maxHeartbeats 8000000
set_option maxRecDepth 100000
namespace Go.Proofs.T
open Go.OM
theorem res18 : Tryd.f18.results.toList = [.tmp 4] := rfl
theorem ent18 : Enters E.P 18 := eO Tryd.func18 (by simp [Tryd.f18]) rfl
instance c18_ (c1 : GCode) (i2 : Int) {r0 : List Bool} : Con E 18 (impl_InForce c1 i2 = some r0) [.val (GCode.enc false c1), .val (vi i2)] [.sl true 1 (List.map vb r0)] [] := Con.mk fun h => by
 refine oB Tryd.func18 rfl (by simp [Tryd.f18]) fun C (q : C.N = 31) hP => ?_
 have y := pinB0 hP
 unfold impl_InForce at h
 refine SWp.zS y ?_
 iterate 2 refine wps_q q ?_
 apply wN
 refine SWp.seq ?_
 obtain ⟨c3, a9, h⟩ := bS h
 refine SWp.seqRC rfl (y _ rfl) [1, 2, 16] [2] (fun _ : Unit => ⟨[(1, .t (vi i2)), (2, .ref (.box 2) 0 []), (16, .t (vb c3))], [(2, [vs c1.Name, vi c1.Params, .sl false 1 (List.map vi c1.Locals), .sl false 7 (List.map (GIns.enc false) c1.Words)])]⟩) (fun _ => True) (fun _ _ => ?_) fun K4 c0 => ?_
 rotate_left
 ·refine wps_q q ?_
  obtain ⟨r5, c4, a9⟩ := bS a9
  refine wps_c [(.take, .tmp 5)] q (Ent.ok (E := E) (f := 30)) (Con.ok c4) ?_
  iterate 2 refine wps_q q ?_
  rcases ite_or a9 with ⟨b2, a9⟩ | ⟨b1, a9⟩
  ·have b0 := b2
   try simp at b0
   iterate 7 (refine wO fun K w => ?_; simp [q, b2, b0]; apply w)
   refine wps_q q ?_ rfl (by simp [b2, b0]; rfl)
   refine wN ?_
   cases a9
   exact c0 _ () [] trivial (by simp [q, b2, b0])
  have a8 := b1
  try simp at a8
  iterate 5 (refine wps_q q ?_ rfl (by simp [b1, a8]; rfl))
  obtain ⟨r9, b3, a9⟩ := bS a9
  refine wps_c [(.take, .tmp 9), (.take, .const (.int .i64 0)), (.take, .tmp 13)] q (Ent.ok (E := E) (f := 50)) (Con.ok b3) ?_ rfl rfl (by simp [b1, a8]; rfl)
  iterate 2 (refine wps_q q ?_ rfl (by simp [b1, a8]; rfl))
  refine wN ?_
  cases a9
  exact c0 _ () [] trivial (by simp [q, b1, a8])
 refine SWp.cI h (fun c5 h => ?_) fun c6 h => ?_
 ·refine SWp.zS y ?_
  refine wps_q q ?_
  apply wN
  cases h
  refine SWp.ret ?_
  simp [thenS, iB, res18]
 refine SWp.skip ?_
 refine SWp.seq ?_
 obtain ⟨c7, b4, h⟩ := bS h
 obtain ⟨c9, b5, h⟩ := bS h
 obtain ⟨a0, a1, a2, a3⟩ := gS b5
 obtain ⟨c8, b6, h⟩ := bS h
 obtain ⟨d0, b7, h⟩ := bS h
 obtain ⟨a4, a5, a6, a7⟩ := gS b7
 obtain ⟨c2, b8, h⟩ := bS h
 refine SWp.dT rfl (y _ rfl) (en 17 [.t (GCode.enc false c1), .t (.sl true 1 (List.map (eSl true 1 (eSl true 1 vb)) c7)), .t (vi i2), .ref (.slot 18) 0 [(i2.toNat, 0)], .al (.slot 18) 0 [(i2.toNat, 0)] none, .t (GCode.enc false c1), .t (.sl true 1 (List.map (eSl true 1 vb) c8)), .t (vi i2), .ref (.slot 23) 0 [(i2.toNat, 0)], .al (.slot 23) 0 [(i2.toNat, 0)] none, .t (GCode.enc false c1), .t (.sl true 3 (List.map GLoan.enc c2)), .t (vi (c2.length : Int))]) [[], [0], [], [0, 1, 2], rg 0 4, [], [0, 1, 5], [], [0, 1, 5, 6, 7], [0, 1]++rg 5 4, [], [0, 1, 5, 6, 10], [0, 1, 5, 6, 10, 11], rg 0 13, rg 0 14] (by simp) (by simp) (by simp [look]) rfl rfl rfl ?_ fun K u => ?_
 ·refine ⟨?_, ?_, ?_, ?_, ?_, ?_, ?_, ?_, ?_, ?_, ?_, ?_, ?_, trivial⟩
  all_goals (intro τ hbx hb hd hf K u; try simp [vsAt] at hd; simp [vsAt] at hf; first | (refine wC rfl fun K' v => ?_; simp [q, hbx, hb, hd, hf, a0, a1, a2, a3, a4, a5, a6, a7]; exact v _ (wN (u _ (by simp [vsAt, hbx, a0, a1, a2, a3, a4, a5, a6, a7])))) | (refine wL [(.take, .tmp 17)] rfl rfl ent9 (Con.ok b4) fun K' v => ?_; simp [q, hbx, hb, hd, hf, a0, a1, a2, a3, a4, a5, a6, a7]; exact v _ (wN (u _ (by simp [vsAt, hbx, a0, a1, a2, a3, a4, a5, a6, a7])))) | (refine wL [(.take, .tmp 22)] rfl rfl (Ent.ok (E := E) (f := 46)) (Con.ok b6) fun K' v => ?_; simp [q, hbx, hb, hd, hf, a0, a1, a2, a3, a4, a5, a6, a7]; exact v _ (wN (u _ (by simp [vsAt, hbx, a0, a1, a2, a3, a4, a5, a6, a7])))) | (refine wL [(.take, .tmp 27)] rfl rfl (Ent.ok (E := E) (f := 31)) (Con.ok b8) fun K' v => ?_; simp [q, hbx, hb, hd, hf, a0, a1, a2, a3, a4, a5, a6, a7]; exact v _ (wN (u _ (by simp [vsAt, hbx, a0, a1, a2, a3, a4, a5, a6, a7])))))
 obtain ⟨d1, b9, h⟩ := bS h
 refine wps_c [(.bor, .tmp 21), (.bor, .tmp 26), (.take, .tmp 29)] q (Ent.ok (E := E) (f := 47)) (Con.ok b9) ?_ rfl rfl (by simp [a0, a1, a2, a3, a4, a5, a6, a7]; rfl)
 refine wps_q q ?_ rfl (by simp [a0, a1, a2, a3, a4, a5, a6, a7]; rfl)
 apply wN; apply u
 cases h
 refine SWp.ret ?_
 simp [thenS, iB, res18]
instance e18_ : Ent E 18 := ⟨ent18⟩
end Go.Proofs.T
